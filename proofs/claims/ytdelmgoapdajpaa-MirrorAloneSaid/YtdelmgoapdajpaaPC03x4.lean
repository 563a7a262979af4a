/- For the laws of the group C03: the Lean functions that the Go functions compute, and proofs that they do. Written by wip/hprint.py of this repo over the kit's printer; nothing here is trusted: Lean checks it. -/
import Derived.Test.YtdelmgoapdajpaaPC03x0
import Derived.Test.YtdelmgoapdajpaaPC03x2
import Derived.Test.YtdelmgoapdajpaaPC03x3
namespace Go.Proofs.Ytdelmgoapdajpaa.PC03
open Go.RowKit Go.Proofs.YtdelmgoapdajpaaW.PrintWords Go.Proofs.YtdelmgoapdajpaaW.PrintLast Go.Proofs.YtdelmgoapdajpaaW.PrintMore
attribute [local go_sem] max2_int min2_int max_two min_two max_three min_three max_four min_four   -- for this text's walks alone
set_option linter.unusedVariables false
set_option linter.unusedSimpArgs false

/-! ### parquetrylaw03_MirrorGlyphs: function 11 -/
def parquetrylaw03_MirrorGlyphs.l0 : Nat → Int → Int → Option (Bool)
  | 0, _, _ => none
  | k + 1, x0, x3 => if x3 ≤ 2 then ((mirror_Glyph.f (wrap64 ((Go.bits .and .i64 x0 2097151) + x3))).bind fun t195 => ((parquetryref03_Glyph.f k (wrap64 ((Go.bits .and .i64 x0 2097151) + x3))).bind fun t196 => (if t195 = t196 then (parquetrylaw03_MirrorGlyphs.l0 k x0 (wrap64 (x3 + 1))) else (some false)))) else ((mirror_Glyph.f x0).bind fun t192 => ((parquetryref03_Glyph.f k x0).bind fun t193 => (if t192 = t193 then ((parquetrylaw03_awake.f).bind fun t194 => (some t194)) else (some false))))
def parquetrylaw03_MirrorGlyphs.f (k : Nat) (a0 : Int) : Option (Bool) := parquetrylaw03_MirrorGlyphs.l0 k a0 (-2)
theorem parquetrylaw03_MirrorGlyphs.mono_l : ∀ k, (∀ y0 y1, LeO (parquetrylaw03_MirrorGlyphs.l0 k y0 y1) (parquetrylaw03_MirrorGlyphs.l0 (k + 1) y0 y1))
  | 0 => fun _ _ r h => by simp [parquetrylaw03_MirrorGlyphs.l0] at h
  | k + 1 => by
    have ih0 := parquetrylaw03_MirrorGlyphs.mono_l k
    · intro y0 y1
      unfold parquetrylaw03_MirrorGlyphs.l0
      repeat' first
      | (with_reducible exact ih0 _ _)
      | (with_reducible exact parquetryref03_Glyph.mono _ _)
      | (with_reducible exact LeO.refl _)
      | (with_reducible exact LeO.none _)
      | (with_reducible refine LeO.ite ?_ ?_)
      | (with_reducible refine LeO.bind ?_ (fun _ => ?_))
      | exact ih0 _ _
      | exact parquetryref03_Glyph.mono _ _
      | exact LeO.none _
      | refine LeO.ite ?_ ?_
      | refine LeO.bind ?_ (fun _ => ?_)
theorem parquetrylaw03_MirrorGlyphs.mono : ∀ a0 k, LeO (parquetrylaw03_MirrorGlyphs.f k a0) (parquetrylaw03_MirrorGlyphs.f (k + 1) a0) := by
  intro a0 k
  have ih0 := parquetrylaw03_MirrorGlyphs.mono_l k
  unfold parquetrylaw03_MirrorGlyphs.f
  repeat' first
      | (with_reducible exact ih0 _ _)
      | (with_reducible exact parquetryref03_Glyph.mono _ _)
      | (with_reducible exact LeO.refl _)
      | (with_reducible exact LeO.none _)
      | (with_reducible refine LeO.ite ?_ ?_)
      | (with_reducible refine LeO.bind ?_ (fun _ => ?_))
      | exact ih0 _ _
      | exact parquetryref03_Glyph.mono _ _
      | exact LeO.none _
      | refine LeO.ite ?_ ?_
      | refine LeO.bind ?_ (fun _ => ?_)
set_option maxHeartbeats 8000000 in
set_option maxRecDepth 100000 in
theorem parquetrylaw03_MirrorGlyphs.calls (k : Nat) (a0 : Int) (r : Bool) (w : World) (h : parquetrylaw03_MirrorGlyphs.f k a0 = some r) :
    Calls Try.prog 11 #[.int .i64 a0] w fun e w' => e = .returned (.bool r) ∧ Below w.heap.size w w' := by
  have HB := Aside0.mk (Below.refl w.heap.size w)
  have H : (parquetrylaw03_MirrorGlyphs.l0 k a0 (-2)) = some r := h
  clear h
  have H' := Aside0.mk H
  clear H
  go_enter Try.func11, Try.ntmps11
  go_wp2
  go_loopg [3] k (fun kq v3 w' => ∃ (x3_1 : Int), v3 = .int .i64 x3_1 ∧ Aside0 (parquetrylaw03_MirrorGlyphs.l0 kq a0 x3_1 = some r) ∧ Aside0 (kq ≤ k) ∧ Aside0 (Below w.heap.size w w'))
  case atStart => exact ⟨((-2)), (by first | rfl | (simp; done) | (simp [*]; done)), H', ⟨Nat.le_refl _⟩, ⟨by repeat (first | (with_reducible first | exact HB.out | apply below_alloc | apply pw_below_drewN | apply below_drew1) | exact HB.out)⟩⟩
  case round =>
    clear H'
    try clear c1
    obtain ⟨x3_1, rfl, HA, HK1, HB⟩ := hrel
    cases gk with
    | zero => exact absurd HA.out (by simp [parquetrylaw03_MirrorGlyphs.l0])
    | succ k1 =>
      have H := HA.out
      clear HA
      simp only [parquetrylaw03_MirrorGlyphs.l0] at H
      by_cases c2 : x3_1 ≤ 2
      · rw [if_pos c2] at H
        have c2b0 : decide (x3_1 ≤ 2) = true := decide_eq_true c2
        clear c2
        replace H := Option.bind_eq_some_iff.mp H
        obtain ⟨t195, A30, H⟩ := H
        replace H : ((parquetryref03_Glyph.f k1 (wrap64 ((Go.bits .and .i64 a0 2097151) + x3_1))).bind fun t196 => (if t195 = t196 then (parquetrylaw03_MirrorGlyphs.l0 k1 a0 (wrap64 (x3_1 + 1))) else (some false))) = some r := H
        have A3 := Aside0.mk A30
        clear A30
        replace H := Option.bind_eq_some_iff.mp H
        obtain ⟨t196, A40, H⟩ := H
        replace H : (if t195 = t196 then (parquetrylaw03_MirrorGlyphs.l0 k1 a0 (wrap64 (x3_1 + 1))) else (some false)) = some r := H
        have A4 := Aside0.mk A40
        clear A40
        by_cases c5 : t195 = t196
        · rw [if_pos c5] at H
          have c5b0 : (t195 == t196) = true := beq_iff_eq.mpr c5
          have c5b1 : (t195 != t196) = false := bne_eq_false_iff_eq.mpr c5
          clear c5
          have H' := Aside0.mk H
          clear H
          go_wp2_with (first | ((with_reducible refine gate_callee (f := 33) rfl ?_); refine goesL_ (some 14) rfl rfl Try.func33 (by kernel_rfl) rfl #[.int .i64 (wrap64 ((Go.bits .and .i64 a0 2097151) + x3_1))] rfl (by (try simp only [List.map_toArray, List.map_cons, List.map_nil]); first | done | rfl | (simp only [List.length_drop, List.length_take]; rfl)) ?_; (with_reducible refine (mirror_Glyph.calls (wrap64 ((Go.bits .and .i64 a0 2097151) + x3_1)) t195 _ A3.out).mono ?_); rintro e w6 ⟨rfl, hb⟩; refine ⟨_, rfl, ?_⟩; have n0_ := Aside0.mk (below_step (by repeat (first | (with_reducible first | exact HB.out | apply below_alloc | apply pw_below_drewN | apply below_drew1) | exact HB.out)) hb); clear HB; have HB := n0_; clear n0_; (try clear hb); (try clear hb2); (try clear hk); (try clear hi)) | ((with_reducible refine gate_callee (f := 34) rfl ?_); refine goesL_ (some 16) rfl rfl Try.func34 (by kernel_rfl) rfl #[.int .i64 (wrap64 ((Go.bits .and .i64 a0 2097151) + x3_1))] rfl (by (try simp only [List.map_toArray, List.map_cons, List.map_nil]); first | done | rfl | (simp only [List.length_drop, List.length_take]; rfl)) ?_; (with_reducible refine (parquetryref03_Glyph.calls k1 (wrap64 ((Go.bits .and .i64 a0 2097151) + x3_1)) t196 _ A4.out).mono ?_); rintro e w7 ⟨rfl, hb⟩; refine ⟨_, rfl, ?_⟩; have n0_ := Aside0.mk (below_step (by repeat (first | (with_reducible first | exact HB.out | apply below_alloc | apply pw_below_drewN | apply below_drew1) | exact HB.out)) hb); clear HB; have HB := n0_; clear n0_; (try clear hb); (try clear hb2); (try clear hk); (try clear hi)))
          go_roundg k1
          case measure => have := HK1.out; omega
          case rel => exact ⟨(wrap64 (x3_1 + 1)), (by first | rfl | (simp; done) | (simp [*]; done)), H', ⟨by have := HK1.out; omega⟩, ⟨by repeat (first | (with_reducible first | exact HB.out | apply below_alloc | apply pw_below_drewN | apply below_drew1) | exact HB.out)⟩⟩
        · rw [if_neg c5] at H
          have c5b0 : (t195 == t196) = false := beq_eq_false_iff_ne.mpr c5
          have c5b1 : (t195 != t196) = true := bne_iff_ne.mpr c5
          obtain rfl := Option.some.inj H
          go_wp2_with (first | ((with_reducible refine gate_callee (f := 33) rfl ?_); refine goesL_ (some 14) rfl rfl Try.func33 (by kernel_rfl) rfl #[.int .i64 (wrap64 ((Go.bits .and .i64 a0 2097151) + x3_1))] rfl (by (try simp only [List.map_toArray, List.map_cons, List.map_nil]); first | done | rfl | (simp only [List.length_drop, List.length_take]; rfl)) ?_; (with_reducible refine (mirror_Glyph.calls (wrap64 ((Go.bits .and .i64 a0 2097151) + x3_1)) t195 _ A3.out).mono ?_); rintro e w8 ⟨rfl, hb⟩; refine ⟨_, rfl, ?_⟩; have n0_ := Aside0.mk (below_step (by repeat (first | (with_reducible first | exact HB.out | apply below_alloc | apply pw_below_drewN | apply below_drew1) | exact HB.out)) hb); clear HB; have HB := n0_; clear n0_; (try clear hb); (try clear hb2); (try clear hk); (try clear hi)) | ((with_reducible refine gate_callee (f := 34) rfl ?_); refine goesL_ (some 16) rfl rfl Try.func34 (by kernel_rfl) rfl #[.int .i64 (wrap64 ((Go.bits .and .i64 a0 2097151) + x3_1))] rfl (by (try simp only [List.map_toArray, List.map_cons, List.map_nil]); first | done | rfl | (simp only [List.length_drop, List.length_take]; rfl)) ?_; (with_reducible refine (parquetryref03_Glyph.calls k1 (wrap64 ((Go.bits .and .i64 a0 2097151) + x3_1)) t196 _ A4.out).mono ?_); rintro e w9 ⟨rfl, hb⟩; refine ⟨_, rfl, ?_⟩; have n0_ := Aside0.mk (below_step (by repeat (first | (with_reducible first | exact HB.out | apply below_alloc | apply pw_below_drewN | apply below_drew1) | exact HB.out)) hb); clear HB; have HB := n0_; clear n0_; (try clear hb); (try clear hb2); (try clear hk); (try clear hi)))
          go_ret
          exact ⟨by first | rfl | (simp [errW_none, errW_some] <;> rfl) | (simp [*, errW_none, errW_some] <;> rfl), by repeat (first | (with_reducible first | exact HB.out | apply below_alloc | apply pw_below_drewN | apply below_drew1) | exact HB.out)⟩
      · rw [if_neg c2] at H
        have c2b0 : decide (x3_1 ≤ 2) = false := decide_eq_false c2
        clear c2
        replace H := Option.bind_eq_some_iff.mp H
        obtain ⟨t192, A100, H⟩ := H
        replace H : ((parquetryref03_Glyph.f k1 a0).bind fun t193 => (if t192 = t193 then ((parquetrylaw03_awake.f).bind fun t194 => (some t194)) else (some false))) = some r := H
        have A10 := Aside0.mk A100
        clear A100
        replace H := Option.bind_eq_some_iff.mp H
        obtain ⟨t193, A110, H⟩ := H
        replace H : (if t192 = t193 then ((parquetrylaw03_awake.f).bind fun t194 => (some t194)) else (some false)) = some r := H
        have A11 := Aside0.mk A110
        clear A110
        by_cases c12 : t192 = t193
        · rw [if_pos c12] at H
          have c12b0 : (t192 == t193) = true := beq_iff_eq.mpr c12
          have c12b1 : (t192 != t193) = false := bne_eq_false_iff_eq.mpr c12
          clear c12
          replace H := Option.bind_eq_some_iff.mp H
          obtain ⟨t194, A130, H⟩ := H
          replace H : (some t194) = some r := H
          have A13 := Aside0.mk A130
          clear A130
          obtain rfl := Option.some.inj H
          go_wp2_with (first | ((with_reducible refine gate_callee (f := 33) rfl ?_); refine goesL_ (some 19) rfl rfl Try.func33 (by kernel_rfl) rfl #[.int .i64 a0] rfl (by (try simp only [List.map_toArray, List.map_cons, List.map_nil]); first | done | rfl | (simp only [List.length_drop, List.length_take]; rfl)) ?_; (with_reducible refine (mirror_Glyph.calls a0 t192 _ A10.out).mono ?_); rintro e w14 ⟨rfl, hb⟩; refine ⟨_, rfl, ?_⟩; have n0_ := Aside0.mk (below_step (by repeat (first | (with_reducible first | exact HB.out | apply below_alloc | apply pw_below_drewN | apply below_drew1) | exact HB.out)) hb); clear HB; have HB := n0_; clear n0_; (try clear hb); (try clear hb2); (try clear hk); (try clear hi)) | ((with_reducible refine gate_callee (f := 34) rfl ?_); refine goesL_ (some 21) rfl rfl Try.func34 (by kernel_rfl) rfl #[.int .i64 a0] rfl (by (try simp only [List.map_toArray, List.map_cons, List.map_nil]); first | done | rfl | (simp only [List.length_drop, List.length_take]; rfl)) ?_; (with_reducible refine (parquetryref03_Glyph.calls k1 a0 t193 _ A11.out).mono ?_); rintro e w15 ⟨rfl, hb⟩; refine ⟨_, rfl, ?_⟩; have n0_ := Aside0.mk (below_step (by repeat (first | (with_reducible first | exact HB.out | apply below_alloc | apply pw_below_drewN | apply below_drew1) | exact HB.out)) hb); clear HB; have HB := n0_; clear n0_; (try clear hb); (try clear hb2); (try clear hk); (try clear hi)) | (go_at_call 30; (with_reducible refine (parquetrylaw03_awake.calls  t194 _ A13.out).mono ?_); rintro e w16 ⟨rfl, hb⟩; have n0_ := Aside0.mk (below_step (by repeat (first | (with_reducible first | exact HB.out | apply below_alloc | apply pw_below_drewN | apply below_drew1) | exact HB.out)) hb); clear HB; have HB := n0_; clear n0_; (try clear hb); (try clear hb2); (try clear hk); (try clear hi)))
          go_ret
          exact ⟨by first | rfl | (simp [errW_none, errW_some] <;> rfl) | (simp [*, errW_none, errW_some] <;> rfl), by repeat (first | (with_reducible first | exact HB.out | apply below_alloc | apply pw_below_drewN | apply below_drew1) | exact HB.out)⟩
        · rw [if_neg c12] at H
          have c12b0 : (t192 == t193) = false := beq_eq_false_iff_ne.mpr c12
          have c12b1 : (t192 != t193) = true := bne_iff_ne.mpr c12
          obtain rfl := Option.some.inj H
          go_wp2_with (first | ((with_reducible refine gate_callee (f := 33) rfl ?_); refine goesL_ (some 19) rfl rfl Try.func33 (by kernel_rfl) rfl #[.int .i64 a0] rfl (by (try simp only [List.map_toArray, List.map_cons, List.map_nil]); first | done | rfl | (simp only [List.length_drop, List.length_take]; rfl)) ?_; (with_reducible refine (mirror_Glyph.calls a0 t192 _ A10.out).mono ?_); rintro e w17 ⟨rfl, hb⟩; refine ⟨_, rfl, ?_⟩; have n0_ := Aside0.mk (below_step (by repeat (first | (with_reducible first | exact HB.out | apply below_alloc | apply pw_below_drewN | apply below_drew1) | exact HB.out)) hb); clear HB; have HB := n0_; clear n0_; (try clear hb); (try clear hb2); (try clear hk); (try clear hi)) | ((with_reducible refine gate_callee (f := 34) rfl ?_); refine goesL_ (some 21) rfl rfl Try.func34 (by kernel_rfl) rfl #[.int .i64 a0] rfl (by (try simp only [List.map_toArray, List.map_cons, List.map_nil]); first | done | rfl | (simp only [List.length_drop, List.length_take]; rfl)) ?_; (with_reducible refine (parquetryref03_Glyph.calls k1 a0 t193 _ A11.out).mono ?_); rintro e w18 ⟨rfl, hb⟩; refine ⟨_, rfl, ?_⟩; have n0_ := Aside0.mk (below_step (by repeat (first | (with_reducible first | exact HB.out | apply below_alloc | apply pw_below_drewN | apply below_drew1) | exact HB.out)) hb); clear HB; have HB := n0_; clear n0_; (try clear hb); (try clear hb2); (try clear hk); (try clear hi)))
          go_ret
          exact ⟨by first | rfl | (simp [errW_none, errW_some] <;> rfl) | (simp [*, errW_none, errW_some] <;> rfl), by repeat (first | (with_reducible first | exact HB.out | apply below_alloc | apply pw_below_drewN | apply below_drew1) | exact HB.out)⟩

/-- THE ONE PURE STATEMENT of parquetrylaw03_MirrorGlyphs: yours. -/
def parquetrylaw03_MirrorGlyphs.Pure : Prop := ∀ (a0 : Int), (Lit.int .i64 a0).wf = true → ∃ k, parquetrylaw03_MirrorGlyphs.f k a0 = some true
theorem parquetrylaw03_MirrorGlyphs.walk (P : parquetrylaw03_MirrorGlyphs.Pure) (a0 : Int) (w : World) (w0 : (Lit.int .i64 a0).wf = true) :
    Calls Try.prog 11 #[.int .i64 a0] w fun e w' => e = .returned (.bool true) ∧ Below w.heap.size w w' := by
  obtain ⟨k, h⟩ := P a0 w0
  refine (parquetrylaw03_MirrorGlyphs.calls k a0 true w h).mono ?_
  rintro e w' ⟨rfl, hd⟩
  exact ⟨rfl, hd⟩

/-! ### parquetrylaw03_MirrorTurns: function 12 -/
mutual
def parquetrylaw03_MirrorTurns.l0 : Nat → Int → Int → Option (Bool)
  | 0, _, _ => none
  | k + 1, x0, x3 => if x3 ≤ 1 then ((mirror_Glyph.f (wrap64 ((Go.bits .and .i64 x0 2097151) + x3))).bind fun t198 => ((mirror_Glyph.f t198).bind fun t199 => (if t199 = (wrap64 ((Go.bits .and .i64 x0 2097151) + x3)) then ((mirror_Pair.f (wrap64 ((Go.bits .and .i64 x0 2097151) + x3))).bind fun bt200 => (if bt200.1 = 0 then (if bt200.2 = 0 then (parquetrylaw03_MirrorTurns.l0 k x0 (wrap64 (x3 + 1))) else (some false)) else ((mirror_Pair.f bt200.2).bind fun bt202 => (if bt200.1 = 2 then (parquetrylaw03_MirrorTurns.j1 k x0 x3 (wrap64 ((Go.bits .and .i64 x0 2097151) + x3)) bt200.1 bt200.2 bt202.1 bt202.2 bt200.2 (wrap64 ((Go.bits .and .i64 x0 2097151) + x3))) else (parquetrylaw03_MirrorTurns.j1 k x0 x3 (wrap64 ((Go.bits .and .i64 x0 2097151) + x3)) bt200.1 bt200.2 bt202.1 bt202.2 (wrap64 ((Go.bits .and .i64 x0 2097151) + x3)) bt200.2))))) else (some false)))) else ((parquetrylaw03_awake.f).bind fun t197 => (some t197))
def parquetrylaw03_MirrorTurns.j1 : Nat → Int → Int → Int → Int → Int → Int → Int → Int → Int → Option (Bool)
  | 0, _, _, _, _, _, _, _, _, _ => none
  | k + 1, x0, x3, x4, x5, x6, x7, x8, x9, x10 => if (wrap64 (x5 + x7)) = 3 then (if x8 = x4 then ((mirror_Glyph.f x4).bind fun t204 => (if t204 = x6 then ((mirror_Meet.f x9 x10).bind fun t205 => (if t205 = true then ((mirror_Meet.f x10 x9).bind fun t206 => (if t206 = true then (some false) else (parquetrylaw03_MirrorTurns.l0 k x0 (wrap64 (x3 + 1))))) else (some false))) else (some false))) else (some false)) else (some false)
end
def parquetrylaw03_MirrorTurns.f (k : Nat) (a0 : Int) : Option (Bool) := parquetrylaw03_MirrorTurns.l0 k a0 (-1)
theorem parquetrylaw03_MirrorTurns.mono_l : ∀ k, (∀ y0 y1, LeO (parquetrylaw03_MirrorTurns.l0 k y0 y1) (parquetrylaw03_MirrorTurns.l0 (k + 1) y0 y1)) ∧ (∀ y0 y1 y2 y3 y4 y5 y6 y7 y8, LeO (parquetrylaw03_MirrorTurns.j1 k y0 y1 y2 y3 y4 y5 y6 y7 y8) (parquetrylaw03_MirrorTurns.j1 (k + 1) y0 y1 y2 y3 y4 y5 y6 y7 y8))
  | 0 => ⟨fun _ _ r h => by simp [parquetrylaw03_MirrorTurns.l0] at h, fun _ _ _ _ _ _ _ _ _ r h => by simp [parquetrylaw03_MirrorTurns.j1] at h⟩
  | k + 1 => by
    obtain ⟨ih0, ih1⟩ := parquetrylaw03_MirrorTurns.mono_l k
    refine ⟨?_, ?_⟩
    · intro y0 y1
      unfold parquetrylaw03_MirrorTurns.l0
      repeat' first
      | (with_reducible exact ih0 _ _)
      | (with_reducible exact ih1 _ _ _ _ _ _ _ _ _)
      | (with_reducible exact LeO.refl _)
      | (with_reducible exact LeO.none _)
      | (with_reducible refine LeO.ite ?_ ?_)
      | (with_reducible refine LeO.bind ?_ (fun _ => ?_))
      | exact ih0 _ _
      | exact ih1 _ _ _ _ _ _ _ _ _
      | exact LeO.none _
      | refine LeO.ite ?_ ?_
      | refine LeO.bind ?_ (fun _ => ?_)
    · intro y0 y1 y2 y3 y4 y5 y6 y7 y8
      unfold parquetrylaw03_MirrorTurns.j1
      repeat' first
      | (with_reducible exact ih0 _ _)
      | (with_reducible exact ih1 _ _ _ _ _ _ _ _ _)
      | (with_reducible exact LeO.refl _)
      | (with_reducible exact LeO.none _)
      | (with_reducible refine LeO.ite ?_ ?_)
      | (with_reducible refine LeO.bind ?_ (fun _ => ?_))
      | exact ih0 _ _
      | exact ih1 _ _ _ _ _ _ _ _ _
      | exact LeO.none _
      | refine LeO.ite ?_ ?_
      | refine LeO.bind ?_ (fun _ => ?_)
theorem parquetrylaw03_MirrorTurns.mono : ∀ a0 k, LeO (parquetrylaw03_MirrorTurns.f k a0) (parquetrylaw03_MirrorTurns.f (k + 1) a0) := by
  intro a0 k
  obtain ⟨ih0, ih1⟩ := parquetrylaw03_MirrorTurns.mono_l k
  unfold parquetrylaw03_MirrorTurns.f
  repeat' first
      | (with_reducible exact ih0 _ _)
      | (with_reducible exact ih1 _ _ _ _ _ _ _ _ _)
      | (with_reducible exact LeO.refl _)
      | (with_reducible exact LeO.none _)
      | (with_reducible refine LeO.ite ?_ ?_)
      | (with_reducible refine LeO.bind ?_ (fun _ => ?_))
      | exact ih0 _ _
      | exact ih1 _ _ _ _ _ _ _ _ _
      | exact LeO.none _
      | refine LeO.ite ?_ ?_
      | refine LeO.bind ?_ (fun _ => ?_)
set_option maxHeartbeats 8000000 in
set_option maxRecDepth 100000 in
theorem parquetrylaw03_MirrorTurns.calls (k : Nat) (a0 : Int) (r : Bool) (w : World) (h : parquetrylaw03_MirrorTurns.f k a0 = some r) :
    Calls Try.prog 12 #[.int .i64 a0] w fun e w' => e = .returned (.bool r) ∧ Below w.heap.size w w' := by
  have HB := Aside0.mk (Below.refl w.heap.size w)
  have H : (parquetrylaw03_MirrorTurns.l0 k a0 (-1)) = some r := h
  clear h
  have H' := Aside0.mk H
  clear H
  go_enter Try.func12, Try.ntmps12
  go_wp2
  go_loopg [3] k (fun kq v3 w' => ∃ (x3_1 : Int), v3 = .int .i64 x3_1 ∧ Aside0 (parquetrylaw03_MirrorTurns.l0 kq a0 x3_1 = some r) ∧ Aside0 (kq ≤ k) ∧ Aside0 (Below w.heap.size w w'))
  case atStart => exact ⟨((-1)), (by first | rfl | (simp; done) | (simp [*]; done)), H', ⟨Nat.le_refl _⟩, ⟨by repeat (first | (with_reducible first | exact HB.out | apply below_alloc | apply pw_below_drewN | apply below_drew1) | exact HB.out)⟩⟩
  case round =>
    clear H'
    try clear c1
    obtain ⟨x3_1, rfl, HA, HK1, HB⟩ := hrel
    cases gk with
    | zero => exact absurd HA.out (by simp [parquetrylaw03_MirrorTurns.l0])
    | succ k1 =>
      have H := HA.out
      clear HA
      simp only [parquetrylaw03_MirrorTurns.l0] at H
      by_cases c2 : x3_1 ≤ 1
      · rw [if_pos c2] at H
        have c2b0 : decide (x3_1 ≤ 1) = true := decide_eq_true c2
        clear c2
        replace H := Option.bind_eq_some_iff.mp H
        obtain ⟨t198, A30, H⟩ := H
        replace H : ((mirror_Glyph.f t198).bind fun t199 => (if t199 = (wrap64 ((Go.bits .and .i64 a0 2097151) + x3_1)) then ((mirror_Pair.f (wrap64 ((Go.bits .and .i64 a0 2097151) + x3_1))).bind fun bt200 => (if bt200.1 = 0 then (if bt200.2 = 0 then (parquetrylaw03_MirrorTurns.l0 k1 a0 (wrap64 (x3_1 + 1))) else (some false)) else ((mirror_Pair.f bt200.2).bind fun bt202 => (if bt200.1 = 2 then (parquetrylaw03_MirrorTurns.j1 k1 a0 x3_1 (wrap64 ((Go.bits .and .i64 a0 2097151) + x3_1)) bt200.1 bt200.2 bt202.1 bt202.2 bt200.2 (wrap64 ((Go.bits .and .i64 a0 2097151) + x3_1))) else (parquetrylaw03_MirrorTurns.j1 k1 a0 x3_1 (wrap64 ((Go.bits .and .i64 a0 2097151) + x3_1)) bt200.1 bt200.2 bt202.1 bt202.2 (wrap64 ((Go.bits .and .i64 a0 2097151) + x3_1)) bt200.2))))) else (some false))) = some r := H
        have A3 := Aside0.mk A30
        clear A30
        replace H := Option.bind_eq_some_iff.mp H
        obtain ⟨t199, A40, H⟩ := H
        replace H : (if t199 = (wrap64 ((Go.bits .and .i64 a0 2097151) + x3_1)) then ((mirror_Pair.f (wrap64 ((Go.bits .and .i64 a0 2097151) + x3_1))).bind fun bt200 => (if bt200.1 = 0 then (if bt200.2 = 0 then (parquetrylaw03_MirrorTurns.l0 k1 a0 (wrap64 (x3_1 + 1))) else (some false)) else ((mirror_Pair.f bt200.2).bind fun bt202 => (if bt200.1 = 2 then (parquetrylaw03_MirrorTurns.j1 k1 a0 x3_1 (wrap64 ((Go.bits .and .i64 a0 2097151) + x3_1)) bt200.1 bt200.2 bt202.1 bt202.2 bt200.2 (wrap64 ((Go.bits .and .i64 a0 2097151) + x3_1))) else (parquetrylaw03_MirrorTurns.j1 k1 a0 x3_1 (wrap64 ((Go.bits .and .i64 a0 2097151) + x3_1)) bt200.1 bt200.2 bt202.1 bt202.2 (wrap64 ((Go.bits .and .i64 a0 2097151) + x3_1)) bt200.2))))) else (some false)) = some r := H
        have A4 := Aside0.mk A40
        clear A40
        by_cases c5 : t199 = (wrap64 ((Go.bits .and .i64 a0 2097151) + x3_1))
        · rw [if_pos c5] at H
          have c5b0 : (t199 == (wrap64 ((Go.bits .and .i64 a0 2097151) + x3_1))) = true := beq_iff_eq.mpr c5
          have c5b1 : (t199 != (wrap64 ((Go.bits .and .i64 a0 2097151) + x3_1))) = false := bne_eq_false_iff_eq.mpr c5
          clear c5
          replace H := Option.bind_eq_some_iff.mp H
          obtain ⟨⟨t200, t201⟩, A60, H⟩ := H
          replace H : (if t200 = 0 then (if t201 = 0 then (parquetrylaw03_MirrorTurns.l0 k1 a0 (wrap64 (x3_1 + 1))) else (some false)) else ((mirror_Pair.f t201).bind fun bt202 => (if t200 = 2 then (parquetrylaw03_MirrorTurns.j1 k1 a0 x3_1 (wrap64 ((Go.bits .and .i64 a0 2097151) + x3_1)) t200 t201 bt202.1 bt202.2 t201 (wrap64 ((Go.bits .and .i64 a0 2097151) + x3_1))) else (parquetrylaw03_MirrorTurns.j1 k1 a0 x3_1 (wrap64 ((Go.bits .and .i64 a0 2097151) + x3_1)) t200 t201 bt202.1 bt202.2 (wrap64 ((Go.bits .and .i64 a0 2097151) + x3_1)) t201)))) = some r := H
          have A6 := Aside0.mk A60
          clear A60
          by_cases c7 : t200 = 0
          · rw [if_pos c7] at H
            have c7b0 : (t200 == 0) = true := beq_iff_eq.mpr c7
            have c7b1 : (t200 != 0) = false := bne_eq_false_iff_eq.mpr c7
            clear c7
            by_cases c8 : t201 = 0
            · rw [if_pos c8] at H
              have c8b0 : (t201 == 0) = true := beq_iff_eq.mpr c8
              have c8b1 : (t201 != 0) = false := bne_eq_false_iff_eq.mpr c8
              clear c8
              have H' := Aside0.mk H
              clear H
              go_wp2_with (first | ((with_reducible refine gate_callee (f := 33) rfl ?_); refine goesL_ (some 20) rfl rfl Try.func33 (by kernel_rfl) rfl #[.int .i64 (wrap64 ((Go.bits .and .i64 a0 2097151) + x3_1))] rfl (by (try simp only [List.map_toArray, List.map_cons, List.map_nil]); first | done | rfl | (simp only [List.length_drop, List.length_take]; rfl)) ?_; (with_reducible refine (mirror_Glyph.calls (wrap64 ((Go.bits .and .i64 a0 2097151) + x3_1)) t198 _ A3.out).mono ?_); rintro e w9 ⟨rfl, hb⟩; refine ⟨_, rfl, ?_⟩; have n0_ := Aside0.mk (below_step (by repeat (first | (with_reducible first | exact HB.out | apply below_alloc | apply pw_below_drewN | apply below_drew1) | exact HB.out)) hb); clear HB; have HB := n0_; clear n0_; (try clear hb); (try clear hb2); (try clear hk); (try clear hi)) | ((with_reducible refine gate_callee (f := 33) rfl ?_); refine goesL_ (some 21) rfl rfl Try.func33 (by kernel_rfl) rfl #[.int .i64 t198] rfl (by (try simp only [List.map_toArray, List.map_cons, List.map_nil]); first | done | rfl | (simp only [List.length_drop, List.length_take]; rfl)) ?_; (with_reducible refine (mirror_Glyph.calls t198 t199 _ A4.out).mono ?_); rintro e w10 ⟨rfl, hb⟩; refine ⟨_, rfl, ?_⟩; have n0_ := Aside0.mk (below_step (by repeat (first | (with_reducible first | exact HB.out | apply below_alloc | apply pw_below_drewN | apply below_drew1) | exact HB.out)) hb); clear HB; have HB := n0_; clear n0_; (try clear hb); (try clear hb2); (try clear hk); (try clear hi)) | ((with_reducible refine gate_callee (f := 35) rfl ?_); refine goesL_ (some 26) rfl rfl Try.func35 (by kernel_rfl) rfl #[.int .i64 (wrap64 ((Go.bits .and .i64 a0 2097151) + x3_1))] rfl (by (try simp only [List.map_toArray, List.map_cons, List.map_nil]); first | done | rfl | (simp only [List.length_drop, List.length_take]; rfl)) ?_; (with_reducible refine (mirror_Pair.calls (wrap64 ((Go.bits .and .i64 a0 2097151) + x3_1)) t200 t201 _ A6.out).mono ?_); rintro e w11 ⟨rfl, hb⟩; refine ⟨_, rfl, ?_⟩; have n0_ := Aside0.mk (below_step (by repeat (first | (with_reducible first | exact HB.out | apply below_alloc | apply pw_below_drewN | apply below_drew1) | exact HB.out)) hb); clear HB; have HB := n0_; clear n0_; (try clear hb); (try clear hb2); (try clear hk); (try clear hi)))
              go_roundg k1
              case measure => have := HK1.out; omega
              case rel => exact ⟨(wrap64 (x3_1 + 1)), (by first | rfl | (simp; done) | (simp [*]; done)), H', ⟨by have := HK1.out; omega⟩, ⟨by repeat (first | (with_reducible first | exact HB.out | apply below_alloc | apply pw_below_drewN | apply below_drew1) | exact HB.out)⟩⟩
            · rw [if_neg c8] at H
              have c8b0 : (t201 == 0) = false := beq_eq_false_iff_ne.mpr c8
              have c8b1 : (t201 != 0) = true := bne_iff_ne.mpr c8
              obtain rfl := Option.some.inj H
              go_wp2_with (first | ((with_reducible refine gate_callee (f := 33) rfl ?_); refine goesL_ (some 20) rfl rfl Try.func33 (by kernel_rfl) rfl #[.int .i64 (wrap64 ((Go.bits .and .i64 a0 2097151) + x3_1))] rfl (by (try simp only [List.map_toArray, List.map_cons, List.map_nil]); first | done | rfl | (simp only [List.length_drop, List.length_take]; rfl)) ?_; (with_reducible refine (mirror_Glyph.calls (wrap64 ((Go.bits .and .i64 a0 2097151) + x3_1)) t198 _ A3.out).mono ?_); rintro e w12 ⟨rfl, hb⟩; refine ⟨_, rfl, ?_⟩; have n0_ := Aside0.mk (below_step (by repeat (first | (with_reducible first | exact HB.out | apply below_alloc | apply pw_below_drewN | apply below_drew1) | exact HB.out)) hb); clear HB; have HB := n0_; clear n0_; (try clear hb); (try clear hb2); (try clear hk); (try clear hi)) | ((with_reducible refine gate_callee (f := 33) rfl ?_); refine goesL_ (some 21) rfl rfl Try.func33 (by kernel_rfl) rfl #[.int .i64 t198] rfl (by (try simp only [List.map_toArray, List.map_cons, List.map_nil]); first | done | rfl | (simp only [List.length_drop, List.length_take]; rfl)) ?_; (with_reducible refine (mirror_Glyph.calls t198 t199 _ A4.out).mono ?_); rintro e w13 ⟨rfl, hb⟩; refine ⟨_, rfl, ?_⟩; have n0_ := Aside0.mk (below_step (by repeat (first | (with_reducible first | exact HB.out | apply below_alloc | apply pw_below_drewN | apply below_drew1) | exact HB.out)) hb); clear HB; have HB := n0_; clear n0_; (try clear hb); (try clear hb2); (try clear hk); (try clear hi)) | ((with_reducible refine gate_callee (f := 35) rfl ?_); refine goesL_ (some 26) rfl rfl Try.func35 (by kernel_rfl) rfl #[.int .i64 (wrap64 ((Go.bits .and .i64 a0 2097151) + x3_1))] rfl (by (try simp only [List.map_toArray, List.map_cons, List.map_nil]); first | done | rfl | (simp only [List.length_drop, List.length_take]; rfl)) ?_; (with_reducible refine (mirror_Pair.calls (wrap64 ((Go.bits .and .i64 a0 2097151) + x3_1)) t200 t201 _ A6.out).mono ?_); rintro e w14 ⟨rfl, hb⟩; refine ⟨_, rfl, ?_⟩; have n0_ := Aside0.mk (below_step (by repeat (first | (with_reducible first | exact HB.out | apply below_alloc | apply pw_below_drewN | apply below_drew1) | exact HB.out)) hb); clear HB; have HB := n0_; clear n0_; (try clear hb); (try clear hb2); (try clear hk); (try clear hi)))
              go_ret
              exact ⟨by first | rfl | (simp [errW_none, errW_some] <;> rfl) | (simp [*, errW_none, errW_some] <;> rfl), by repeat (first | (with_reducible first | exact HB.out | apply below_alloc | apply pw_below_drewN | apply below_drew1) | exact HB.out)⟩
          · rw [if_neg c7] at H
            have c7b0 : (t200 == 0) = false := beq_eq_false_iff_ne.mpr c7
            have c7b1 : (t200 != 0) = true := bne_iff_ne.mpr c7
            replace H := Option.bind_eq_some_iff.mp H
            obtain ⟨⟨t202, t203⟩, A150, H⟩ := H
            replace H : (if t200 = 2 then (parquetrylaw03_MirrorTurns.j1 k1 a0 x3_1 (wrap64 ((Go.bits .and .i64 a0 2097151) + x3_1)) t200 t201 t202 t203 t201 (wrap64 ((Go.bits .and .i64 a0 2097151) + x3_1))) else (parquetrylaw03_MirrorTurns.j1 k1 a0 x3_1 (wrap64 ((Go.bits .and .i64 a0 2097151) + x3_1)) t200 t201 t202 t203 (wrap64 ((Go.bits .and .i64 a0 2097151) + x3_1)) t201)) = some r := H
            have A15 := Aside0.mk A150
            clear A150
            have HC16 := Aside0.mk H
            clear H
            go_upto_if 41 with (first | ((with_reducible refine gate_callee (f := 33) rfl ?_); refine goesL_ (some 20) rfl rfl Try.func33 (by kernel_rfl) rfl #[.int .i64 (wrap64 ((Go.bits .and .i64 a0 2097151) + x3_1))] rfl (by (try simp only [List.map_toArray, List.map_cons, List.map_nil]); first | done | rfl | (simp only [List.length_drop, List.length_take]; rfl)) ?_; (with_reducible refine (mirror_Glyph.calls (wrap64 ((Go.bits .and .i64 a0 2097151) + x3_1)) t198 _ A3.out).mono ?_); rintro e w17 ⟨rfl, hb⟩; refine ⟨_, rfl, ?_⟩; have n0_ := Aside0.mk (below_step (by repeat (first | (with_reducible first | exact HB.out | apply below_alloc | apply pw_below_drewN | apply below_drew1) | exact HB.out)) hb); clear HB; have HB := n0_; clear n0_; (try clear hb); (try clear hb2); (try clear hk); (try clear hi)) | ((with_reducible refine gate_callee (f := 33) rfl ?_); refine goesL_ (some 21) rfl rfl Try.func33 (by kernel_rfl) rfl #[.int .i64 t198] rfl (by (try simp only [List.map_toArray, List.map_cons, List.map_nil]); first | done | rfl | (simp only [List.length_drop, List.length_take]; rfl)) ?_; (with_reducible refine (mirror_Glyph.calls t198 t199 _ A4.out).mono ?_); rintro e w18 ⟨rfl, hb⟩; refine ⟨_, rfl, ?_⟩; have n0_ := Aside0.mk (below_step (by repeat (first | (with_reducible first | exact HB.out | apply below_alloc | apply pw_below_drewN | apply below_drew1) | exact HB.out)) hb); clear HB; have HB := n0_; clear n0_; (try clear hb); (try clear hb2); (try clear hk); (try clear hi)) | ((with_reducible refine gate_callee (f := 35) rfl ?_); refine goesL_ (some 26) rfl rfl Try.func35 (by kernel_rfl) rfl #[.int .i64 (wrap64 ((Go.bits .and .i64 a0 2097151) + x3_1))] rfl (by (try simp only [List.map_toArray, List.map_cons, List.map_nil]); first | done | rfl | (simp only [List.length_drop, List.length_take]; rfl)) ?_; (with_reducible refine (mirror_Pair.calls (wrap64 ((Go.bits .and .i64 a0 2097151) + x3_1)) t200 t201 _ A6.out).mono ?_); rintro e w19 ⟨rfl, hb⟩; refine ⟨_, rfl, ?_⟩; have n0_ := Aside0.mk (below_step (by repeat (first | (with_reducible first | exact HB.out | apply below_alloc | apply pw_below_drewN | apply below_drew1) | exact HB.out)) hb); clear HB; have HB := n0_; clear n0_; (try clear hb); (try clear hb2); (try clear hk); (try clear hi)) | ((with_reducible refine gate_callee (f := 35) rfl ?_); refine goesL_ (some 35) rfl rfl Try.func35 (by kernel_rfl) rfl #[.int .i64 t201] rfl (by (try simp only [List.map_toArray, List.map_cons, List.map_nil]); first | done | rfl | (simp only [List.length_drop, List.length_take]; rfl)) ?_; (with_reducible refine (mirror_Pair.calls t201 t202 t203 _ A15.out).mono ?_); rintro e w20 ⟨rfl, hb⟩; refine ⟨_, rfl, ?_⟩; have n0_ := Aside0.mk (below_step (by repeat (first | (with_reducible first | exact HB.out | apply below_alloc | apply pw_below_drewN | apply below_drew1) | exact HB.out)) hb); clear HB; have HB := n0_; clear n0_; (try clear hb); (try clear hb2); (try clear hk); (try clear hi)))
            (try simp only [Act.put, List.setIfInBounds_toArray, List.set_cons_zero, List.set_cons_succ])
            go_cut [9, 10] (fun v9 v10 wc => ∃ (kq : Nat) (x9_15 : Int) (x10_15 : Int), v9 = .int .i64 x9_15 ∧ v10 = .int .i64 x10_15 ∧ Aside0 (parquetrylaw03_MirrorTurns.j1 kq a0 x3_1 (wrap64 ((Go.bits .and .i64 a0 2097151) + x3_1)) t200 t201 t202 t203 x9_15 x10_15 = some r) ∧ Aside0 (kq ≤ k1) ∧ Aside0 (Below w.heap.size w wc))
            case first =>
              have H := HC16.out
              clear HC16
              by_cases c21 : t200 = 2
              · rw [if_pos c21] at H
                have c21b0 : (t200 == 2) = true := beq_iff_eq.mpr c21
                have c21b1 : (t200 != 2) = false := bne_eq_false_iff_eq.mpr c21
                clear c21
                (first | rw [c21b0] | (simp only [i64_w, i32_w]; rw [c21b0]) | skip)
                have H' := Aside0.mk H
                clear H
                go_wp2
                go_meet
                case rel => exact ⟨_, (t201), (wrap64 ((Go.bits .and .i64 a0 2097151) + x3_1)), (by first | rfl | (simp; done) | (simp [*]; done)), (by first | rfl | (simp; done) | (simp [*]; done)), H', ⟨by have := HK1.out; first | omega | exact Nat.le_refl _⟩, ⟨by repeat (first | (with_reducible first | exact HB.out | apply below_alloc | apply pw_below_drewN | apply below_drew1) | exact HB.out)⟩⟩
              · rw [if_neg c21] at H
                have c21b0 : (t200 == 2) = false := beq_eq_false_iff_ne.mpr c21
                have c21b1 : (t200 != 2) = true := bne_iff_ne.mpr c21
                (first | rw [c21b0] | (simp only [i64_w, i32_w]; rw [c21b0]) | skip)
                have H' := Aside0.mk H
                clear H
                go_wp2
                go_meet
                case rel => exact ⟨_, (wrap64 ((Go.bits .and .i64 a0 2097151) + x3_1)), (t201), (by first | rfl | (simp; done) | (simp [*]; done)), (by first | rfl | (simp; done) | (simp [*]; done)), H', ⟨by have := HK1.out; first | omega | exact Nat.le_refl _⟩, ⟨by repeat (first | (with_reducible first | exact HB.out | apply below_alloc | apply pw_below_drewN | apply below_drew1) | exact HB.out)⟩⟩
            case rest =>
              clear HC16
              try clear c1
              try clear c2
              try clear c2b0
              try clear p2
              try clear c3
              try clear c5
              try clear c5b0
              try clear c5b1
              try clear p6
              try clear c7
              try clear c7b0
              try clear c7b1
              try clear c8
              try clear c8b0
              try clear c8b1
              try clear c12
              try clear c21
              try clear c21b0
              try clear c21b1
              obtain ⟨kq, x9_15, x10_15, rfl, rfl, HA, HJ15, HB⟩ := hcut
              cases kq with
              | zero => exact absurd HA.out (by simp [parquetrylaw03_MirrorTurns.j1])
              | succ kj15 =>
                have H := HA.out
                clear HA
                simp only [parquetrylaw03_MirrorTurns.j1] at H
                by_cases c22 : (wrap64 (t200 + t202)) = 3
                · rw [if_pos c22] at H
                  have c22b0 : ((wrap64 (t200 + t202)) == 3) = true := beq_iff_eq.mpr c22
                  have c22b1 : ((wrap64 (t200 + t202)) != 3) = false := bne_eq_false_iff_eq.mpr c22
                  clear c22
                  by_cases c23 : t203 = (wrap64 ((Go.bits .and .i64 a0 2097151) + x3_1))
                  · rw [if_pos c23] at H
                    have c23b0 : (t203 == (wrap64 ((Go.bits .and .i64 a0 2097151) + x3_1))) = true := beq_iff_eq.mpr c23
                    have c23b1 : (t203 != (wrap64 ((Go.bits .and .i64 a0 2097151) + x3_1))) = false := bne_eq_false_iff_eq.mpr c23
                    clear c23
                    replace H := Option.bind_eq_some_iff.mp H
                    obtain ⟨t204, A240, H⟩ := H
                    replace H : (if t204 = t201 then ((mirror_Meet.f x9_15 x10_15).bind fun t205 => (if t205 = true then ((mirror_Meet.f x10_15 x9_15).bind fun t206 => (if t206 = true then (some false) else (parquetrylaw03_MirrorTurns.l0 kj15 a0 (wrap64 (x3_1 + 1))))) else (some false))) else (some false)) = some r := H
                    have A24 := Aside0.mk A240
                    clear A240
                    by_cases c25 : t204 = t201
                    · rw [if_pos c25] at H
                      have c25b0 : (t204 == t201) = true := beq_iff_eq.mpr c25
                      have c25b1 : (t204 != t201) = false := bne_eq_false_iff_eq.mpr c25
                      clear c25
                      replace H := Option.bind_eq_some_iff.mp H
                      obtain ⟨t205, A260, H⟩ := H
                      replace H : (if t205 = true then ((mirror_Meet.f x10_15 x9_15).bind fun t206 => (if t206 = true then (some false) else (parquetrylaw03_MirrorTurns.l0 kj15 a0 (wrap64 (x3_1 + 1))))) else (some false)) = some r := H
                      have A26 := Aside0.mk A260
                      clear A260
                      by_cases c27 : t205 = true
                      · subst c27
                        have H1 : ((mirror_Meet.f x10_15 x9_15).bind fun t206 => (if t206 = true then (some false) else (parquetrylaw03_MirrorTurns.l0 kj15 a0 (wrap64 (x3_1 + 1))))) = some r := by rw [if_pos rfl] at H; exact H
                        clear H
                        have H := H1
                        clear H1
                        replace H := Option.bind_eq_some_iff.mp H
                        obtain ⟨t206, A280, H⟩ := H
                        replace H : (if t206 = true then (some false) else (parquetrylaw03_MirrorTurns.l0 kj15 a0 (wrap64 (x3_1 + 1)))) = some r := H
                        have A28 := Aside0.mk A280
                        clear A280
                        by_cases c29 : t206 = true
                        · subst c29
                          have H1 : (some false) = some r := by rw [if_pos rfl] at H; exact H
                          clear H
                          have H := H1
                          clear H1
                          obtain rfl := Option.some.inj H
                          go_wp2_with (first | (go_at_call 33; (with_reducible refine (mirror_Glyph.calls (wrap64 ((Go.bits .and .i64 a0 2097151) + x3_1)) t204 _ A24.out).mono ?_); rintro e w30 ⟨rfl, hb⟩; have n0_ := Aside0.mk (below_step (by repeat (first | (with_reducible first | exact HB.out | apply below_alloc | apply pw_below_drewN | apply below_drew1) | exact HB.out)) hb); clear HB; have HB := n0_; clear n0_; (try clear hb); (try clear hb2); (try clear hk); (try clear hi)) | (go_at_call 31; (with_reducible refine (mirror_Meet.calls x9_15 x10_15 true _ A26.out).mono ?_); rintro e w31 ⟨rfl, hb⟩; have n0_ := Aside0.mk (below_step (by repeat (first | (with_reducible first | exact HB.out | apply below_alloc | apply pw_below_drewN | apply below_drew1) | exact HB.out)) hb); clear HB; have HB := n0_; clear n0_; (try clear hb); (try clear hb2); (try clear hk); (try clear hi)) | (go_at_call 31; (with_reducible refine (mirror_Meet.calls x10_15 x9_15 true _ A28.out).mono ?_); rintro e w32 ⟨rfl, hb⟩; have n0_ := Aside0.mk (below_step (by repeat (first | (with_reducible first | exact HB.out | apply below_alloc | apply pw_below_drewN | apply below_drew1) | exact HB.out)) hb); clear HB; have HB := n0_; clear n0_; (try clear hb); (try clear hb2); (try clear hk); (try clear hi)))
                          go_ret
                          exact ⟨by first | rfl | (simp [errW_none, errW_some] <;> rfl) | (simp [*, errW_none, errW_some] <;> rfl), by repeat (first | (with_reducible first | exact HB.out | apply below_alloc | apply pw_below_drewN | apply below_drew1) | exact HB.out)⟩
                        · replace c29 := Bool.eq_false_iff.mpr c29
                          subst c29
                          have H1 : (parquetrylaw03_MirrorTurns.l0 kj15 a0 (wrap64 (x3_1 + 1))) = some r := by rw [if_neg (show ¬ (false = true) by decide)] at H; exact H
                          clear H
                          have H := H1
                          clear H1
                          have H' := Aside0.mk H
                          clear H
                          go_wp2_with (first | (go_at_call 33; (with_reducible refine (mirror_Glyph.calls (wrap64 ((Go.bits .and .i64 a0 2097151) + x3_1)) t204 _ A24.out).mono ?_); rintro e w33 ⟨rfl, hb⟩; have n0_ := Aside0.mk (below_step (by repeat (first | (with_reducible first | exact HB.out | apply below_alloc | apply pw_below_drewN | apply below_drew1) | exact HB.out)) hb); clear HB; have HB := n0_; clear n0_; (try clear hb); (try clear hb2); (try clear hk); (try clear hi)) | (go_at_call 31; (with_reducible refine (mirror_Meet.calls x9_15 x10_15 true _ A26.out).mono ?_); rintro e w34 ⟨rfl, hb⟩; have n0_ := Aside0.mk (below_step (by repeat (first | (with_reducible first | exact HB.out | apply below_alloc | apply pw_below_drewN | apply below_drew1) | exact HB.out)) hb); clear HB; have HB := n0_; clear n0_; (try clear hb); (try clear hb2); (try clear hk); (try clear hi)) | (go_at_call 31; (with_reducible refine (mirror_Meet.calls x10_15 x9_15 false _ A28.out).mono ?_); rintro e w35 ⟨rfl, hb⟩; have n0_ := Aside0.mk (below_step (by repeat (first | (with_reducible first | exact HB.out | apply below_alloc | apply pw_below_drewN | apply below_drew1) | exact HB.out)) hb); clear HB; have HB := n0_; clear n0_; (try clear hb); (try clear hb2); (try clear hk); (try clear hi)))
                          go_roundg kj15
                          case measure => have := HK1.out; have := HJ15.out; omega
                          case rel => exact ⟨(wrap64 (x3_1 + 1)), (by first | rfl | (simp; done) | (simp [*]; done)), H', ⟨by have := HK1.out; have := HJ15.out; omega⟩, ⟨by repeat (first | (with_reducible first | exact HB.out | apply below_alloc | apply pw_below_drewN | apply below_drew1) | exact HB.out)⟩⟩
                      · replace c27 := Bool.eq_false_iff.mpr c27
                        subst c27
                        have H1 : (some false) = some r := by rw [if_neg (show ¬ (false = true) by decide)] at H; exact H
                        clear H
                        have H := H1
                        clear H1
                        obtain rfl := Option.some.inj H
                        go_wp2_with (first | (go_at_call 33; (with_reducible refine (mirror_Glyph.calls (wrap64 ((Go.bits .and .i64 a0 2097151) + x3_1)) t204 _ A24.out).mono ?_); rintro e w36 ⟨rfl, hb⟩; have n0_ := Aside0.mk (below_step (by repeat (first | (with_reducible first | exact HB.out | apply below_alloc | apply pw_below_drewN | apply below_drew1) | exact HB.out)) hb); clear HB; have HB := n0_; clear n0_; (try clear hb); (try clear hb2); (try clear hk); (try clear hi)) | (go_at_call 31; (with_reducible refine (mirror_Meet.calls x9_15 x10_15 false _ A26.out).mono ?_); rintro e w37 ⟨rfl, hb⟩; have n0_ := Aside0.mk (below_step (by repeat (first | (with_reducible first | exact HB.out | apply below_alloc | apply pw_below_drewN | apply below_drew1) | exact HB.out)) hb); clear HB; have HB := n0_; clear n0_; (try clear hb); (try clear hb2); (try clear hk); (try clear hi)))
                        go_ret
                        exact ⟨by first | rfl | (simp [errW_none, errW_some] <;> rfl) | (simp [*, errW_none, errW_some] <;> rfl), by repeat (first | (with_reducible first | exact HB.out | apply below_alloc | apply pw_below_drewN | apply below_drew1) | exact HB.out)⟩
                    · rw [if_neg c25] at H
                      have c25b0 : (t204 == t201) = false := beq_eq_false_iff_ne.mpr c25
                      have c25b1 : (t204 != t201) = true := bne_iff_ne.mpr c25
                      obtain rfl := Option.some.inj H
                      go_wp2_with (first | (go_at_call 33; (with_reducible refine (mirror_Glyph.calls (wrap64 ((Go.bits .and .i64 a0 2097151) + x3_1)) t204 _ A24.out).mono ?_); rintro e w38 ⟨rfl, hb⟩; have n0_ := Aside0.mk (below_step (by repeat (first | (with_reducible first | exact HB.out | apply below_alloc | apply pw_below_drewN | apply below_drew1) | exact HB.out)) hb); clear HB; have HB := n0_; clear n0_; (try clear hb); (try clear hb2); (try clear hk); (try clear hi)))
                      go_ret
                      exact ⟨by first | rfl | (simp [errW_none, errW_some] <;> rfl) | (simp [*, errW_none, errW_some] <;> rfl), by repeat (first | (with_reducible first | exact HB.out | apply below_alloc | apply pw_below_drewN | apply below_drew1) | exact HB.out)⟩
                  · rw [if_neg c23] at H
                    have c23b0 : (t203 == (wrap64 ((Go.bits .and .i64 a0 2097151) + x3_1))) = false := beq_eq_false_iff_ne.mpr c23
                    have c23b1 : (t203 != (wrap64 ((Go.bits .and .i64 a0 2097151) + x3_1))) = true := bne_iff_ne.mpr c23
                    obtain rfl := Option.some.inj H
                    go_wp2
                    go_ret
                    exact ⟨by first | rfl | (simp [errW_none, errW_some] <;> rfl) | (simp [*, errW_none, errW_some] <;> rfl), by repeat (first | (with_reducible first | exact HB.out | apply below_alloc | apply pw_below_drewN | apply below_drew1) | exact HB.out)⟩
                · rw [if_neg c22] at H
                  have c22b0 : ((wrap64 (t200 + t202)) == 3) = false := beq_eq_false_iff_ne.mpr c22
                  have c22b1 : ((wrap64 (t200 + t202)) != 3) = true := bne_iff_ne.mpr c22
                  obtain rfl := Option.some.inj H
                  go_wp2
                  go_ret
                  exact ⟨by first | rfl | (simp [errW_none, errW_some] <;> rfl) | (simp [*, errW_none, errW_some] <;> rfl), by repeat (first | (with_reducible first | exact HB.out | apply below_alloc | apply pw_below_drewN | apply below_drew1) | exact HB.out)⟩
        · rw [if_neg c5] at H
          have c5b0 : (t199 == (wrap64 ((Go.bits .and .i64 a0 2097151) + x3_1))) = false := beq_eq_false_iff_ne.mpr c5
          have c5b1 : (t199 != (wrap64 ((Go.bits .and .i64 a0 2097151) + x3_1))) = true := bne_iff_ne.mpr c5
          obtain rfl := Option.some.inj H
          go_wp2_with (first | ((with_reducible refine gate_callee (f := 33) rfl ?_); refine goesL_ (some 20) rfl rfl Try.func33 (by kernel_rfl) rfl #[.int .i64 (wrap64 ((Go.bits .and .i64 a0 2097151) + x3_1))] rfl (by (try simp only [List.map_toArray, List.map_cons, List.map_nil]); first | done | rfl | (simp only [List.length_drop, List.length_take]; rfl)) ?_; (with_reducible refine (mirror_Glyph.calls (wrap64 ((Go.bits .and .i64 a0 2097151) + x3_1)) t198 _ A3.out).mono ?_); rintro e w39 ⟨rfl, hb⟩; refine ⟨_, rfl, ?_⟩; have n0_ := Aside0.mk (below_step (by repeat (first | (with_reducible first | exact HB.out | apply below_alloc | apply pw_below_drewN | apply below_drew1) | exact HB.out)) hb); clear HB; have HB := n0_; clear n0_; (try clear hb); (try clear hb2); (try clear hk); (try clear hi)) | ((with_reducible refine gate_callee (f := 33) rfl ?_); refine goesL_ (some 21) rfl rfl Try.func33 (by kernel_rfl) rfl #[.int .i64 t198] rfl (by (try simp only [List.map_toArray, List.map_cons, List.map_nil]); first | done | rfl | (simp only [List.length_drop, List.length_take]; rfl)) ?_; (with_reducible refine (mirror_Glyph.calls t198 t199 _ A4.out).mono ?_); rintro e w40 ⟨rfl, hb⟩; refine ⟨_, rfl, ?_⟩; have n0_ := Aside0.mk (below_step (by repeat (first | (with_reducible first | exact HB.out | apply below_alloc | apply pw_below_drewN | apply below_drew1) | exact HB.out)) hb); clear HB; have HB := n0_; clear n0_; (try clear hb); (try clear hb2); (try clear hk); (try clear hi)))
          go_ret
          exact ⟨by first | rfl | (simp [errW_none, errW_some] <;> rfl) | (simp [*, errW_none, errW_some] <;> rfl), by repeat (first | (with_reducible first | exact HB.out | apply below_alloc | apply pw_below_drewN | apply below_drew1) | exact HB.out)⟩
      · rw [if_neg c2] at H
        have c2b0 : decide (x3_1 ≤ 1) = false := decide_eq_false c2
        clear c2
        replace H := Option.bind_eq_some_iff.mp H
        obtain ⟨t197, A410, H⟩ := H
        replace H : (some t197) = some r := H
        have A41 := Aside0.mk A410
        clear A410
        obtain rfl := Option.some.inj H
        go_wp2_with (first | ((with_reducible refine gate_callee (f := 30) rfl ?_); refine goesL_ (some 70) rfl rfl Try.func30 (by kernel_rfl) rfl #[] rfl (by (try simp only [List.map_toArray, List.map_cons, List.map_nil]); first | done | rfl | (simp only [List.length_drop, List.length_take]; rfl)) ?_; (with_reducible refine (parquetrylaw03_awake.calls  t197 _ A41.out).mono ?_); rintro e w42 ⟨rfl, hb⟩; refine ⟨_, rfl, ?_⟩; have n0_ := Aside0.mk (below_step (by repeat (first | (with_reducible first | exact HB.out | apply below_alloc | apply pw_below_drewN | apply below_drew1) | exact HB.out)) hb); clear HB; have HB := n0_; clear n0_; (try clear hb); (try clear hb2); (try clear hk); (try clear hi)))
        go_ret
        exact ⟨by first | rfl | (simp [errW_none, errW_some] <;> rfl) | (simp [*, errW_none, errW_some] <;> rfl), by repeat (first | (with_reducible first | exact HB.out | apply below_alloc | apply pw_below_drewN | apply below_drew1) | exact HB.out)⟩

/-- THE ONE PURE STATEMENT of parquetrylaw03_MirrorTurns: yours. -/
def parquetrylaw03_MirrorTurns.Pure : Prop := ∀ (a0 : Int), (Lit.int .i64 a0).wf = true → ∃ k, parquetrylaw03_MirrorTurns.f k a0 = some true
theorem parquetrylaw03_MirrorTurns.walk (P : parquetrylaw03_MirrorTurns.Pure) (a0 : Int) (w : World) (w0 : (Lit.int .i64 a0).wf = true) :
    Calls Try.prog 12 #[.int .i64 a0] w fun e w' => e = .returned (.bool true) ∧ Below w.heap.size w w' := by
  obtain ⟨k, h⟩ := P a0 w0
  refine (parquetrylaw03_MirrorTurns.calls k a0 true w h).mono ?_
  rintro e w' ⟨rfl, hd⟩
  exact ⟨rfl, hd⟩

/-! ### parquetrylaw03_MirrorAlone: function 13 -/
def parquetrylaw03_MirrorAlone.f (a0 : Int) (a1 : Int) : Option (Bool) := (mirror_Pair.f a0).bind fun bt207 => ((mirror_Pair.f a1).bind fun bt209 => ((mirror_Form.f bt207.2).bind fun t211 => ((mirror_Form.f a1).bind fun t212 => ((mirror_Meet.f a0 a1).bind fun t213 => (if bt207.1 = 1 then (if bt209.1 = 2 then (if (t213 == (t211 == t212)) = true then ((mirror_Form.f a1).bind fun t214 => ((mirror_Form.f t214).bind fun t215 => ((mirror_Form.f a1).bind fun t216 => (if t215 = t216 then ((parquetrylaw03_awake.f).bind fun t217 => (some t217)) else (some false))))) else (some false)) else (if (t213 == false) = true then ((mirror_Form.f a1).bind fun t218 => ((mirror_Form.f t218).bind fun t219 => ((mirror_Form.f a1).bind fun t220 => (if t219 = t220 then ((parquetrylaw03_awake.f).bind fun t221 => (some t221)) else (some false))))) else (some false))) else (if (t213 == false) = true then ((mirror_Form.f a1).bind fun t222 => ((mirror_Form.f t222).bind fun t223 => ((mirror_Form.f a1).bind fun t224 => (if t223 = t224 then ((parquetrylaw03_awake.f).bind fun t225 => (some t225)) else (some false))))) else (some false)))))))
set_option maxHeartbeats 8000000 in
set_option maxRecDepth 100000 in
theorem parquetrylaw03_MirrorAlone.calls (a0 : Int) (a1 : Int) (r : Bool) (w : World) (h : parquetrylaw03_MirrorAlone.f a0 a1 = some r) :
    Calls Try.prog 13 #[.int .i64 a0, .int .i64 a1] w fun e w' => e = .returned (.bool r) ∧ Below w.heap.size w w' := by
  have HB := Aside0.mk (Below.refl w.heap.size w)
  have H : ((mirror_Pair.f a0).bind fun bt207 => ((mirror_Pair.f a1).bind fun bt209 => ((mirror_Form.f bt207.2).bind fun t211 => ((mirror_Form.f a1).bind fun t212 => ((mirror_Meet.f a0 a1).bind fun t213 => (if bt207.1 = 1 then (if bt209.1 = 2 then (if (t213 == (t211 == t212)) = true then ((mirror_Form.f a1).bind fun t214 => ((mirror_Form.f t214).bind fun t215 => ((mirror_Form.f a1).bind fun t216 => (if t215 = t216 then ((parquetrylaw03_awake.f).bind fun t217 => (some t217)) else (some false))))) else (some false)) else (if (t213 == false) = true then ((mirror_Form.f a1).bind fun t218 => ((mirror_Form.f t218).bind fun t219 => ((mirror_Form.f a1).bind fun t220 => (if t219 = t220 then ((parquetrylaw03_awake.f).bind fun t221 => (some t221)) else (some false))))) else (some false))) else (if (t213 == false) = true then ((mirror_Form.f a1).bind fun t222 => ((mirror_Form.f t222).bind fun t223 => ((mirror_Form.f a1).bind fun t224 => (if t223 = t224 then ((parquetrylaw03_awake.f).bind fun t225 => (some t225)) else (some false))))) else (some false)))))))) = some r := h
  clear h
  replace H := Option.bind_eq_some_iff.mp H
  obtain ⟨⟨t207, t208⟩, A30, H⟩ := H
  replace H : ((mirror_Pair.f a1).bind fun bt209 => ((mirror_Form.f t208).bind fun t211 => ((mirror_Form.f a1).bind fun t212 => ((mirror_Meet.f a0 a1).bind fun t213 => (if t207 = 1 then (if bt209.1 = 2 then (if (t213 == (t211 == t212)) = true then ((mirror_Form.f a1).bind fun t214 => ((mirror_Form.f t214).bind fun t215 => ((mirror_Form.f a1).bind fun t216 => (if t215 = t216 then ((parquetrylaw03_awake.f).bind fun t217 => (some t217)) else (some false))))) else (some false)) else (if (t213 == false) = true then ((mirror_Form.f a1).bind fun t218 => ((mirror_Form.f t218).bind fun t219 => ((mirror_Form.f a1).bind fun t220 => (if t219 = t220 then ((parquetrylaw03_awake.f).bind fun t221 => (some t221)) else (some false))))) else (some false))) else (if (t213 == false) = true then ((mirror_Form.f a1).bind fun t222 => ((mirror_Form.f t222).bind fun t223 => ((mirror_Form.f a1).bind fun t224 => (if t223 = t224 then ((parquetrylaw03_awake.f).bind fun t225 => (some t225)) else (some false))))) else (some false))))))) = some r := H
  have A3 := Aside0.mk A30
  clear A30
  replace H := Option.bind_eq_some_iff.mp H
  obtain ⟨⟨t209, t210⟩, A40, H⟩ := H
  replace H : ((mirror_Form.f t208).bind fun t211 => ((mirror_Form.f a1).bind fun t212 => ((mirror_Meet.f a0 a1).bind fun t213 => (if t207 = 1 then (if t209 = 2 then (if (t213 == (t211 == t212)) = true then ((mirror_Form.f a1).bind fun t214 => ((mirror_Form.f t214).bind fun t215 => ((mirror_Form.f a1).bind fun t216 => (if t215 = t216 then ((parquetrylaw03_awake.f).bind fun t217 => (some t217)) else (some false))))) else (some false)) else (if (t213 == false) = true then ((mirror_Form.f a1).bind fun t218 => ((mirror_Form.f t218).bind fun t219 => ((mirror_Form.f a1).bind fun t220 => (if t219 = t220 then ((parquetrylaw03_awake.f).bind fun t221 => (some t221)) else (some false))))) else (some false))) else (if (t213 == false) = true then ((mirror_Form.f a1).bind fun t222 => ((mirror_Form.f t222).bind fun t223 => ((mirror_Form.f a1).bind fun t224 => (if t223 = t224 then ((parquetrylaw03_awake.f).bind fun t225 => (some t225)) else (some false))))) else (some false)))))) = some r := H
  have A4 := Aside0.mk A40
  clear A40
  replace H := Option.bind_eq_some_iff.mp H
  obtain ⟨t211, A50, H⟩ := H
  replace H : ((mirror_Form.f a1).bind fun t212 => ((mirror_Meet.f a0 a1).bind fun t213 => (if t207 = 1 then (if t209 = 2 then (if (t213 == (t211 == t212)) = true then ((mirror_Form.f a1).bind fun t214 => ((mirror_Form.f t214).bind fun t215 => ((mirror_Form.f a1).bind fun t216 => (if t215 = t216 then ((parquetrylaw03_awake.f).bind fun t217 => (some t217)) else (some false))))) else (some false)) else (if (t213 == false) = true then ((mirror_Form.f a1).bind fun t218 => ((mirror_Form.f t218).bind fun t219 => ((mirror_Form.f a1).bind fun t220 => (if t219 = t220 then ((parquetrylaw03_awake.f).bind fun t221 => (some t221)) else (some false))))) else (some false))) else (if (t213 == false) = true then ((mirror_Form.f a1).bind fun t222 => ((mirror_Form.f t222).bind fun t223 => ((mirror_Form.f a1).bind fun t224 => (if t223 = t224 then ((parquetrylaw03_awake.f).bind fun t225 => (some t225)) else (some false))))) else (some false))))) = some r := H
  have A5 := Aside0.mk A50
  clear A50
  replace H := Option.bind_eq_some_iff.mp H
  obtain ⟨t212, A60, H⟩ := H
  replace H : ((mirror_Meet.f a0 a1).bind fun t213 => (if t207 = 1 then (if t209 = 2 then (if (t213 == (t211 == t212)) = true then ((mirror_Form.f a1).bind fun t214 => ((mirror_Form.f t214).bind fun t215 => ((mirror_Form.f a1).bind fun t216 => (if t215 = t216 then ((parquetrylaw03_awake.f).bind fun t217 => (some t217)) else (some false))))) else (some false)) else (if (t213 == false) = true then ((mirror_Form.f a1).bind fun t218 => ((mirror_Form.f t218).bind fun t219 => ((mirror_Form.f a1).bind fun t220 => (if t219 = t220 then ((parquetrylaw03_awake.f).bind fun t221 => (some t221)) else (some false))))) else (some false))) else (if (t213 == false) = true then ((mirror_Form.f a1).bind fun t222 => ((mirror_Form.f t222).bind fun t223 => ((mirror_Form.f a1).bind fun t224 => (if t223 = t224 then ((parquetrylaw03_awake.f).bind fun t225 => (some t225)) else (some false))))) else (some false)))) = some r := H
  have A6 := Aside0.mk A60
  clear A60
  replace H := Option.bind_eq_some_iff.mp H
  obtain ⟨t213, A70, H⟩ := H
  replace H : (if t207 = 1 then (if t209 = 2 then (if (t213 == (t211 == t212)) = true then ((mirror_Form.f a1).bind fun t214 => ((mirror_Form.f t214).bind fun t215 => ((mirror_Form.f a1).bind fun t216 => (if t215 = t216 then ((parquetrylaw03_awake.f).bind fun t217 => (some t217)) else (some false))))) else (some false)) else (if (t213 == false) = true then ((mirror_Form.f a1).bind fun t218 => ((mirror_Form.f t218).bind fun t219 => ((mirror_Form.f a1).bind fun t220 => (if t219 = t220 then ((parquetrylaw03_awake.f).bind fun t221 => (some t221)) else (some false))))) else (some false))) else (if (t213 == false) = true then ((mirror_Form.f a1).bind fun t222 => ((mirror_Form.f t222).bind fun t223 => ((mirror_Form.f a1).bind fun t224 => (if t223 = t224 then ((parquetrylaw03_awake.f).bind fun t225 => (some t225)) else (some false))))) else (some false))) = some r := H
  have A7 := Aside0.mk A70
  clear A70
  by_cases c8 : t207 = 1
  · rw [if_pos c8] at H
    have c8b0 : (t207 == 1) = true := beq_iff_eq.mpr c8
    have c8b1 : (t207 != 1) = false := bne_eq_false_iff_eq.mpr c8
    clear c8
    by_cases c9 : t209 = 2
    · rw [if_pos c9] at H
      have c9b0 : (t209 == 2) = true := beq_iff_eq.mpr c9
      have c9b1 : (t209 != 2) = false := bne_eq_false_iff_eq.mpr c9
      clear c9
      by_cases c10 : (t213 == (t211 == t212)) = true
      · rw [if_pos c10] at H
        have c10b0 : (t213 == (t211 == t212)) = true := c10
        (try (have c10b1 : decide (t213 = (t211 == t212)) = true := by simpa using c10))
        (try (have c10b2 : (t213 == (t211 == t212)) = true := by simpa using c10))
        clear c10
        replace H := Option.bind_eq_some_iff.mp H
        obtain ⟨t214, A110, H⟩ := H
        replace H : ((mirror_Form.f t214).bind fun t215 => ((mirror_Form.f a1).bind fun t216 => (if t215 = t216 then ((parquetrylaw03_awake.f).bind fun t217 => (some t217)) else (some false)))) = some r := H
        have A11 := Aside0.mk A110
        clear A110
        replace H := Option.bind_eq_some_iff.mp H
        obtain ⟨t215, A120, H⟩ := H
        replace H : ((mirror_Form.f a1).bind fun t216 => (if t215 = t216 then ((parquetrylaw03_awake.f).bind fun t217 => (some t217)) else (some false))) = some r := H
        have A12 := Aside0.mk A120
        clear A120
        replace H := Option.bind_eq_some_iff.mp H
        obtain ⟨t216, A130, H⟩ := H
        replace H : (if t215 = t216 then ((parquetrylaw03_awake.f).bind fun t217 => (some t217)) else (some false)) = some r := H
        have A13 := Aside0.mk A130
        clear A130
        by_cases c14 : t215 = t216
        · rw [if_pos c14] at H
          have c14b0 : (t215 == t216) = true := beq_iff_eq.mpr c14
          (try have c14b0z5 : (t215 == t211) = true := by rw [show t211 = t216 from Option.some.inj (A5.out.symm.trans A13.out)]; exact c14b0)
          (try have c14b0z6 : (t215 == t212) = true := by rw [show t212 = t216 from Option.some.inj (A6.out.symm.trans A13.out)]; exact c14b0)
          (try have c14b0z7 : (t215 == t213) = true := by rw [show t213 = t216 from Option.some.inj (A7.out.symm.trans A13.out)]; exact c14b0)
          (try have c14b0z11 : (t215 == t214) = true := by rw [show t214 = t216 from Option.some.inj (A11.out.symm.trans A13.out)]; exact c14b0)
          have c14b1 : (t215 != t216) = false := bne_eq_false_iff_eq.mpr c14
          (try have c14b1z5 : (t215 != t211) = false := by rw [show t211 = t216 from Option.some.inj (A5.out.symm.trans A13.out)]; exact c14b1)
          (try have c14b1z6 : (t215 != t212) = false := by rw [show t212 = t216 from Option.some.inj (A6.out.symm.trans A13.out)]; exact c14b1)
          (try have c14b1z7 : (t215 != t213) = false := by rw [show t213 = t216 from Option.some.inj (A7.out.symm.trans A13.out)]; exact c14b1)
          (try have c14b1z11 : (t215 != t214) = false := by rw [show t214 = t216 from Option.some.inj (A11.out.symm.trans A13.out)]; exact c14b1)
          clear c14
          replace H := Option.bind_eq_some_iff.mp H
          obtain ⟨t217, A150, H⟩ := H
          replace H : (some t217) = some r := H
          have A15 := Aside0.mk A150
          clear A150
          obtain rfl := Option.some.inj H
          go_enter Try.func13, Try.ntmps13
          go_wp2_with (first | ((with_reducible refine gate_callee (f := 35) rfl ?_); refine goesL_ (some 12) rfl rfl Try.func35 (by kernel_rfl) rfl #[.int .i64 a0] rfl (by (try simp only [List.map_toArray, List.map_cons, List.map_nil]); first | done | rfl | (simp only [List.length_drop, List.length_take]; rfl)) ?_; (with_reducible refine (mirror_Pair.calls a0 t207 t208 _ A3.out).mono ?_); rintro e w16 ⟨rfl, hb⟩; refine ⟨_, rfl, ?_⟩; have n0_ := Aside0.mk (below_step (by repeat (first | (with_reducible first | exact HB.out | apply below_alloc | apply pw_below_drewN | apply below_drew1) | exact HB.out)) hb); clear HB; have HB := n0_; clear n0_; (try clear hb); (try clear hb2); (try clear hk); (try clear hi)) | ((with_reducible refine gate_callee (f := 35) rfl ?_); refine goesL_ (some 17) rfl rfl Try.func35 (by kernel_rfl) rfl #[.int .i64 a1] rfl (by (try simp only [List.map_toArray, List.map_cons, List.map_nil]); first | done | rfl | (simp only [List.length_drop, List.length_take]; rfl)) ?_; (with_reducible refine (mirror_Pair.calls a1 t209 t210 _ A4.out).mono ?_); rintro e w17 ⟨rfl, hb⟩; refine ⟨_, rfl, ?_⟩; have n0_ := Aside0.mk (below_step (by repeat (first | (with_reducible first | exact HB.out | apply below_alloc | apply pw_below_drewN | apply below_drew1) | exact HB.out)) hb); clear HB; have HB := n0_; clear n0_; (try clear hb); (try clear hb2); (try clear hk); (try clear hi)) | ((with_reducible refine gate_callee (f := 28) rfl ?_); refine goesL_ (some 21) rfl rfl Try.func28 (by kernel_rfl) rfl #[.int .i64 t208] rfl (by (try simp only [List.map_toArray, List.map_cons, List.map_nil]); first | done | rfl | (simp only [List.length_drop, List.length_take]; rfl)) ?_; (with_reducible refine (mirror_Form.calls t208 t211 _ A5.out).mono ?_); rintro e w' ⟨rfl, ⟨nd, rfl⟩⟩; refine ⟨_, rfl, ?_⟩) | ((with_reducible refine gate_callee (f := 28) rfl ?_); refine goesL_ (some 23) rfl rfl Try.func28 (by kernel_rfl) rfl #[.int .i64 a1] rfl (by (try simp only [List.map_toArray, List.map_cons, List.map_nil]); first | done | rfl | (simp only [List.length_drop, List.length_take]; rfl)) ?_; (with_reducible refine (mirror_Form.calls a1 t212 _ A6.out).mono ?_); rintro e w' ⟨rfl, ⟨nd, rfl⟩⟩; refine ⟨_, rfl, ?_⟩) | ((with_reducible refine gate_callee (f := 31) rfl ?_); refine goesL_ (some 27) rfl rfl Try.func31 (by kernel_rfl) rfl #[.int .i64 a0, .int .i64 a1] rfl (by (try simp only [List.map_toArray, List.map_cons, List.map_nil]); first | done | rfl | (simp only [List.length_drop, List.length_take]; rfl)) ?_; (with_reducible refine (mirror_Meet.calls a0 a1 t213 _ A7.out).mono ?_); rintro e w18 ⟨rfl, hb⟩; refine ⟨_, rfl, ?_⟩; have n0_ := Aside0.mk (below_step (by repeat (first | (with_reducible first | exact HB.out | apply below_alloc | apply pw_below_drewN | apply below_drew1) | exact HB.out)) hb); clear HB; have HB := n0_; clear n0_; (try clear hb); (try clear hb2); (try clear hk); (try clear hi)) | (go_at_call 28; (with_reducible refine (mirror_Form.calls a1 t214 _ A11.out).mono ?_); rintro e w' ⟨rfl, ⟨nd, rfl⟩⟩) | (go_at_call 28; (with_reducible refine (mirror_Form.calls t214 t215 _ A12.out).mono ?_); rintro e w' ⟨rfl, ⟨nd, rfl⟩⟩) | (go_at_call 28; (with_reducible refine (mirror_Form.calls a1 t216 _ A13.out).mono ?_); rintro e w' ⟨rfl, ⟨nd, rfl⟩⟩) | (go_at_call 30; (with_reducible refine (parquetrylaw03_awake.calls  t217 _ A15.out).mono ?_); rintro e w19 ⟨rfl, hb⟩; have n0_ := Aside0.mk (below_step (by repeat (first | (with_reducible first | exact HB.out | apply below_alloc | apply pw_below_drewN | apply below_drew1) | exact HB.out)) hb); clear HB; have HB := n0_; clear n0_; (try clear hb); (try clear hb2); (try clear hk); (try clear hi)))
          go_ret
          exact ⟨by first | rfl | (simp [errW_none, errW_some] <;> rfl) | (simp [*, errW_none, errW_some] <;> rfl), by repeat (first | (with_reducible first | exact HB.out | apply below_alloc | apply pw_below_drewN | apply below_drew1) | exact HB.out)⟩
        · rw [if_neg c14] at H
          have c14b0 : (t215 == t216) = false := beq_eq_false_iff_ne.mpr c14
          (try have c14b0z5 : (t215 == t211) = false := by rw [show t211 = t216 from Option.some.inj (A5.out.symm.trans A13.out)]; exact c14b0)
          (try have c14b0z6 : (t215 == t212) = false := by rw [show t212 = t216 from Option.some.inj (A6.out.symm.trans A13.out)]; exact c14b0)
          (try have c14b0z7 : (t215 == t213) = false := by rw [show t213 = t216 from Option.some.inj (A7.out.symm.trans A13.out)]; exact c14b0)
          (try have c14b0z11 : (t215 == t214) = false := by rw [show t214 = t216 from Option.some.inj (A11.out.symm.trans A13.out)]; exact c14b0)
          (try have c14b0z15 : (t215 == t217) = false := by rw [show t217 = t216 from Option.some.inj (A15.out.symm.trans A13.out)]; exact c14b0)
          have c14b1 : (t215 != t216) = true := bne_iff_ne.mpr c14
          (try have c14b1z5 : (t215 != t211) = true := by rw [show t211 = t216 from Option.some.inj (A5.out.symm.trans A13.out)]; exact c14b1)
          (try have c14b1z6 : (t215 != t212) = true := by rw [show t212 = t216 from Option.some.inj (A6.out.symm.trans A13.out)]; exact c14b1)
          (try have c14b1z7 : (t215 != t213) = true := by rw [show t213 = t216 from Option.some.inj (A7.out.symm.trans A13.out)]; exact c14b1)
          (try have c14b1z11 : (t215 != t214) = true := by rw [show t214 = t216 from Option.some.inj (A11.out.symm.trans A13.out)]; exact c14b1)
          (try have c14b1z15 : (t215 != t217) = true := by rw [show t217 = t216 from Option.some.inj (A15.out.symm.trans A13.out)]; exact c14b1)
          obtain rfl := Option.some.inj H
          go_enter Try.func13, Try.ntmps13
          go_wp2_with (first | ((with_reducible refine gate_callee (f := 35) rfl ?_); refine goesL_ (some 12) rfl rfl Try.func35 (by kernel_rfl) rfl #[.int .i64 a0] rfl (by (try simp only [List.map_toArray, List.map_cons, List.map_nil]); first | done | rfl | (simp only [List.length_drop, List.length_take]; rfl)) ?_; (with_reducible refine (mirror_Pair.calls a0 t207 t208 _ A3.out).mono ?_); rintro e w20 ⟨rfl, hb⟩; refine ⟨_, rfl, ?_⟩; have n0_ := Aside0.mk (below_step (by repeat (first | (with_reducible first | exact HB.out | apply below_alloc | apply pw_below_drewN | apply below_drew1) | exact HB.out)) hb); clear HB; have HB := n0_; clear n0_; (try clear hb); (try clear hb2); (try clear hk); (try clear hi)) | ((with_reducible refine gate_callee (f := 35) rfl ?_); refine goesL_ (some 17) rfl rfl Try.func35 (by kernel_rfl) rfl #[.int .i64 a1] rfl (by (try simp only [List.map_toArray, List.map_cons, List.map_nil]); first | done | rfl | (simp only [List.length_drop, List.length_take]; rfl)) ?_; (with_reducible refine (mirror_Pair.calls a1 t209 t210 _ A4.out).mono ?_); rintro e w21 ⟨rfl, hb⟩; refine ⟨_, rfl, ?_⟩; have n0_ := Aside0.mk (below_step (by repeat (first | (with_reducible first | exact HB.out | apply below_alloc | apply pw_below_drewN | apply below_drew1) | exact HB.out)) hb); clear HB; have HB := n0_; clear n0_; (try clear hb); (try clear hb2); (try clear hk); (try clear hi)) | ((with_reducible refine gate_callee (f := 28) rfl ?_); refine goesL_ (some 21) rfl rfl Try.func28 (by kernel_rfl) rfl #[.int .i64 t208] rfl (by (try simp only [List.map_toArray, List.map_cons, List.map_nil]); first | done | rfl | (simp only [List.length_drop, List.length_take]; rfl)) ?_; (with_reducible refine (mirror_Form.calls t208 t211 _ A5.out).mono ?_); rintro e w' ⟨rfl, ⟨nd, rfl⟩⟩; refine ⟨_, rfl, ?_⟩) | ((with_reducible refine gate_callee (f := 28) rfl ?_); refine goesL_ (some 23) rfl rfl Try.func28 (by kernel_rfl) rfl #[.int .i64 a1] rfl (by (try simp only [List.map_toArray, List.map_cons, List.map_nil]); first | done | rfl | (simp only [List.length_drop, List.length_take]; rfl)) ?_; (with_reducible refine (mirror_Form.calls a1 t212 _ A6.out).mono ?_); rintro e w' ⟨rfl, ⟨nd, rfl⟩⟩; refine ⟨_, rfl, ?_⟩) | ((with_reducible refine gate_callee (f := 31) rfl ?_); refine goesL_ (some 27) rfl rfl Try.func31 (by kernel_rfl) rfl #[.int .i64 a0, .int .i64 a1] rfl (by (try simp only [List.map_toArray, List.map_cons, List.map_nil]); first | done | rfl | (simp only [List.length_drop, List.length_take]; rfl)) ?_; (with_reducible refine (mirror_Meet.calls a0 a1 t213 _ A7.out).mono ?_); rintro e w22 ⟨rfl, hb⟩; refine ⟨_, rfl, ?_⟩; have n0_ := Aside0.mk (below_step (by repeat (first | (with_reducible first | exact HB.out | apply below_alloc | apply pw_below_drewN | apply below_drew1) | exact HB.out)) hb); clear HB; have HB := n0_; clear n0_; (try clear hb); (try clear hb2); (try clear hk); (try clear hi)) | (go_at_call 28; (with_reducible refine (mirror_Form.calls a1 t214 _ A11.out).mono ?_); rintro e w' ⟨rfl, ⟨nd, rfl⟩⟩) | (go_at_call 28; (with_reducible refine (mirror_Form.calls t214 t215 _ A12.out).mono ?_); rintro e w' ⟨rfl, ⟨nd, rfl⟩⟩) | (go_at_call 28; (with_reducible refine (mirror_Form.calls a1 t216 _ A13.out).mono ?_); rintro e w' ⟨rfl, ⟨nd, rfl⟩⟩))
          go_ret
          exact ⟨by first | rfl | (simp [errW_none, errW_some] <;> rfl) | (simp [*, errW_none, errW_some] <;> rfl), by repeat (first | (with_reducible first | exact HB.out | apply below_alloc | apply pw_below_drewN | apply below_drew1) | exact HB.out)⟩
      · rw [if_neg c10] at H
        have c10b0 : (t213 == (t211 == t212)) = false := by simpa using c10
        (try (have c10b1 : decide (t213 = (t211 == t212)) = false := by simpa using c10))
        (try (have c10b2 : (t213 == (t211 == t212)) = false := by simpa using c10))
        (try (have c10b3 : ¬ (t213 = (t211 == t212)) := by simpa using c10))
        clear c10
        obtain rfl := Option.some.inj H
        go_enter Try.func13, Try.ntmps13
        go_wp2_with (first | ((with_reducible refine gate_callee (f := 35) rfl ?_); refine goesL_ (some 12) rfl rfl Try.func35 (by kernel_rfl) rfl #[.int .i64 a0] rfl (by (try simp only [List.map_toArray, List.map_cons, List.map_nil]); first | done | rfl | (simp only [List.length_drop, List.length_take]; rfl)) ?_; (with_reducible refine (mirror_Pair.calls a0 t207 t208 _ A3.out).mono ?_); rintro e w23 ⟨rfl, hb⟩; refine ⟨_, rfl, ?_⟩; have n0_ := Aside0.mk (below_step (by repeat (first | (with_reducible first | exact HB.out | apply below_alloc | apply pw_below_drewN | apply below_drew1) | exact HB.out)) hb); clear HB; have HB := n0_; clear n0_; (try clear hb); (try clear hb2); (try clear hk); (try clear hi)) | ((with_reducible refine gate_callee (f := 35) rfl ?_); refine goesL_ (some 17) rfl rfl Try.func35 (by kernel_rfl) rfl #[.int .i64 a1] rfl (by (try simp only [List.map_toArray, List.map_cons, List.map_nil]); first | done | rfl | (simp only [List.length_drop, List.length_take]; rfl)) ?_; (with_reducible refine (mirror_Pair.calls a1 t209 t210 _ A4.out).mono ?_); rintro e w24 ⟨rfl, hb⟩; refine ⟨_, rfl, ?_⟩; have n0_ := Aside0.mk (below_step (by repeat (first | (with_reducible first | exact HB.out | apply below_alloc | apply pw_below_drewN | apply below_drew1) | exact HB.out)) hb); clear HB; have HB := n0_; clear n0_; (try clear hb); (try clear hb2); (try clear hk); (try clear hi)) | ((with_reducible refine gate_callee (f := 28) rfl ?_); refine goesL_ (some 21) rfl rfl Try.func28 (by kernel_rfl) rfl #[.int .i64 t208] rfl (by (try simp only [List.map_toArray, List.map_cons, List.map_nil]); first | done | rfl | (simp only [List.length_drop, List.length_take]; rfl)) ?_; (with_reducible refine (mirror_Form.calls t208 t211 _ A5.out).mono ?_); rintro e w' ⟨rfl, ⟨nd, rfl⟩⟩; refine ⟨_, rfl, ?_⟩) | ((with_reducible refine gate_callee (f := 28) rfl ?_); refine goesL_ (some 23) rfl rfl Try.func28 (by kernel_rfl) rfl #[.int .i64 a1] rfl (by (try simp only [List.map_toArray, List.map_cons, List.map_nil]); first | done | rfl | (simp only [List.length_drop, List.length_take]; rfl)) ?_; (with_reducible refine (mirror_Form.calls a1 t212 _ A6.out).mono ?_); rintro e w' ⟨rfl, ⟨nd, rfl⟩⟩; refine ⟨_, rfl, ?_⟩) | ((with_reducible refine gate_callee (f := 31) rfl ?_); refine goesL_ (some 27) rfl rfl Try.func31 (by kernel_rfl) rfl #[.int .i64 a0, .int .i64 a1] rfl (by (try simp only [List.map_toArray, List.map_cons, List.map_nil]); first | done | rfl | (simp only [List.length_drop, List.length_take]; rfl)) ?_; (with_reducible refine (mirror_Meet.calls a0 a1 t213 _ A7.out).mono ?_); rintro e w25 ⟨rfl, hb⟩; refine ⟨_, rfl, ?_⟩; have n0_ := Aside0.mk (below_step (by repeat (first | (with_reducible first | exact HB.out | apply below_alloc | apply pw_below_drewN | apply below_drew1) | exact HB.out)) hb); clear HB; have HB := n0_; clear n0_; (try clear hb); (try clear hb2); (try clear hk); (try clear hi)))
        go_ret
        exact ⟨by first | rfl | (simp [errW_none, errW_some] <;> rfl) | (simp [*, errW_none, errW_some] <;> rfl), by repeat (first | (with_reducible first | exact HB.out | apply below_alloc | apply pw_below_drewN | apply below_drew1) | exact HB.out)⟩
    · rw [if_neg c9] at H
      have c9b0 : (t209 == 2) = false := beq_eq_false_iff_ne.mpr c9
      have c9b1 : (t209 != 2) = true := bne_iff_ne.mpr c9
      by_cases c26 : (t213 == false) = true
      · rw [if_pos c26] at H
        have c26b0 : (t213 == false) = true := c26
        (try (have c26b1 : decide (t213 = false) = true := by simpa using c26))
        (try (have c26b2 : (t213 == false) = true := by simpa using c26))
        clear c26
        replace H := Option.bind_eq_some_iff.mp H
        obtain ⟨t218, A270, H⟩ := H
        replace H : ((mirror_Form.f t218).bind fun t219 => ((mirror_Form.f a1).bind fun t220 => (if t219 = t220 then ((parquetrylaw03_awake.f).bind fun t221 => (some t221)) else (some false)))) = some r := H
        have A27 := Aside0.mk A270
        clear A270
        replace H := Option.bind_eq_some_iff.mp H
        obtain ⟨t219, A280, H⟩ := H
        replace H : ((mirror_Form.f a1).bind fun t220 => (if t219 = t220 then ((parquetrylaw03_awake.f).bind fun t221 => (some t221)) else (some false))) = some r := H
        have A28 := Aside0.mk A280
        clear A280
        replace H := Option.bind_eq_some_iff.mp H
        obtain ⟨t220, A290, H⟩ := H
        replace H : (if t219 = t220 then ((parquetrylaw03_awake.f).bind fun t221 => (some t221)) else (some false)) = some r := H
        have A29 := Aside0.mk A290
        clear A290
        by_cases c30 : t219 = t220
        · rw [if_pos c30] at H
          have c30b0 : (t219 == t220) = true := beq_iff_eq.mpr c30
          (try have c30b0z5 : (t219 == t211) = true := by rw [show t211 = t220 from Option.some.inj (A5.out.symm.trans A29.out)]; exact c30b0)
          (try have c30b0z6 : (t219 == t212) = true := by rw [show t212 = t220 from Option.some.inj (A6.out.symm.trans A29.out)]; exact c30b0)
          (try have c30b0z7 : (t219 == t213) = true := by rw [show t213 = t220 from Option.some.inj (A7.out.symm.trans A29.out)]; exact c30b0)
          (try have c30b0z11 : (t219 == t214) = true := by rw [show t214 = t220 from Option.some.inj (A11.out.symm.trans A29.out)]; exact c30b0)
          (try have c30b0z12 : (t219 == t215) = true := by rw [show t215 = t220 from Option.some.inj (A12.out.symm.trans A29.out)]; exact c30b0)
          (try have c30b0z13 : (t219 == t216) = true := by rw [show t216 = t220 from Option.some.inj (A13.out.symm.trans A29.out)]; exact c30b0)
          (try have c30b0z27 : (t219 == t218) = true := by rw [show t218 = t220 from Option.some.inj (A27.out.symm.trans A29.out)]; exact c30b0)
          have c30b1 : (t219 != t220) = false := bne_eq_false_iff_eq.mpr c30
          (try have c30b1z5 : (t219 != t211) = false := by rw [show t211 = t220 from Option.some.inj (A5.out.symm.trans A29.out)]; exact c30b1)
          (try have c30b1z6 : (t219 != t212) = false := by rw [show t212 = t220 from Option.some.inj (A6.out.symm.trans A29.out)]; exact c30b1)
          (try have c30b1z7 : (t219 != t213) = false := by rw [show t213 = t220 from Option.some.inj (A7.out.symm.trans A29.out)]; exact c30b1)
          (try have c30b1z11 : (t219 != t214) = false := by rw [show t214 = t220 from Option.some.inj (A11.out.symm.trans A29.out)]; exact c30b1)
          (try have c30b1z12 : (t219 != t215) = false := by rw [show t215 = t220 from Option.some.inj (A12.out.symm.trans A29.out)]; exact c30b1)
          (try have c30b1z13 : (t219 != t216) = false := by rw [show t216 = t220 from Option.some.inj (A13.out.symm.trans A29.out)]; exact c30b1)
          (try have c30b1z27 : (t219 != t218) = false := by rw [show t218 = t220 from Option.some.inj (A27.out.symm.trans A29.out)]; exact c30b1)
          clear c30
          replace H := Option.bind_eq_some_iff.mp H
          obtain ⟨t221, A310, H⟩ := H
          replace H : (some t221) = some r := H
          have A31 := Aside0.mk A310
          clear A310
          obtain rfl := Option.some.inj H
          go_enter Try.func13, Try.ntmps13
          go_wp2_with (first | ((with_reducible refine gate_callee (f := 35) rfl ?_); refine goesL_ (some 12) rfl rfl Try.func35 (by kernel_rfl) rfl #[.int .i64 a0] rfl (by (try simp only [List.map_toArray, List.map_cons, List.map_nil]); first | done | rfl | (simp only [List.length_drop, List.length_take]; rfl)) ?_; (with_reducible refine (mirror_Pair.calls a0 t207 t208 _ A3.out).mono ?_); rintro e w32 ⟨rfl, hb⟩; refine ⟨_, rfl, ?_⟩; have n0_ := Aside0.mk (below_step (by repeat (first | (with_reducible first | exact HB.out | apply below_alloc | apply pw_below_drewN | apply below_drew1) | exact HB.out)) hb); clear HB; have HB := n0_; clear n0_; (try clear hb); (try clear hb2); (try clear hk); (try clear hi)) | ((with_reducible refine gate_callee (f := 35) rfl ?_); refine goesL_ (some 17) rfl rfl Try.func35 (by kernel_rfl) rfl #[.int .i64 a1] rfl (by (try simp only [List.map_toArray, List.map_cons, List.map_nil]); first | done | rfl | (simp only [List.length_drop, List.length_take]; rfl)) ?_; (with_reducible refine (mirror_Pair.calls a1 t209 t210 _ A4.out).mono ?_); rintro e w33 ⟨rfl, hb⟩; refine ⟨_, rfl, ?_⟩; have n0_ := Aside0.mk (below_step (by repeat (first | (with_reducible first | exact HB.out | apply below_alloc | apply pw_below_drewN | apply below_drew1) | exact HB.out)) hb); clear HB; have HB := n0_; clear n0_; (try clear hb); (try clear hb2); (try clear hk); (try clear hi)) | ((with_reducible refine gate_callee (f := 28) rfl ?_); refine goesL_ (some 21) rfl rfl Try.func28 (by kernel_rfl) rfl #[.int .i64 t208] rfl (by (try simp only [List.map_toArray, List.map_cons, List.map_nil]); first | done | rfl | (simp only [List.length_drop, List.length_take]; rfl)) ?_; (with_reducible refine (mirror_Form.calls t208 t211 _ A5.out).mono ?_); rintro e w' ⟨rfl, ⟨nd, rfl⟩⟩; refine ⟨_, rfl, ?_⟩) | ((with_reducible refine gate_callee (f := 28) rfl ?_); refine goesL_ (some 23) rfl rfl Try.func28 (by kernel_rfl) rfl #[.int .i64 a1] rfl (by (try simp only [List.map_toArray, List.map_cons, List.map_nil]); first | done | rfl | (simp only [List.length_drop, List.length_take]; rfl)) ?_; (with_reducible refine (mirror_Form.calls a1 t212 _ A6.out).mono ?_); rintro e w' ⟨rfl, ⟨nd, rfl⟩⟩; refine ⟨_, rfl, ?_⟩) | ((with_reducible refine gate_callee (f := 31) rfl ?_); refine goesL_ (some 27) rfl rfl Try.func31 (by kernel_rfl) rfl #[.int .i64 a0, .int .i64 a1] rfl (by (try simp only [List.map_toArray, List.map_cons, List.map_nil]); first | done | rfl | (simp only [List.length_drop, List.length_take]; rfl)) ?_; (with_reducible refine (mirror_Meet.calls a0 a1 t213 _ A7.out).mono ?_); rintro e w34 ⟨rfl, hb⟩; refine ⟨_, rfl, ?_⟩; have n0_ := Aside0.mk (below_step (by repeat (first | (with_reducible first | exact HB.out | apply below_alloc | apply pw_below_drewN | apply below_drew1) | exact HB.out)) hb); clear HB; have HB := n0_; clear n0_; (try clear hb); (try clear hb2); (try clear hk); (try clear hi)) | (go_at_call 28; (with_reducible refine (mirror_Form.calls a1 t218 _ A27.out).mono ?_); rintro e w' ⟨rfl, ⟨nd, rfl⟩⟩) | (go_at_call 28; (with_reducible refine (mirror_Form.calls t218 t219 _ A28.out).mono ?_); rintro e w' ⟨rfl, ⟨nd, rfl⟩⟩) | (go_at_call 28; (with_reducible refine (mirror_Form.calls a1 t220 _ A29.out).mono ?_); rintro e w' ⟨rfl, ⟨nd, rfl⟩⟩) | (go_at_call 30; (with_reducible refine (parquetrylaw03_awake.calls  t221 _ A31.out).mono ?_); rintro e w35 ⟨rfl, hb⟩; have n0_ := Aside0.mk (below_step (by repeat (first | (with_reducible first | exact HB.out | apply below_alloc | apply pw_below_drewN | apply below_drew1) | exact HB.out)) hb); clear HB; have HB := n0_; clear n0_; (try clear hb); (try clear hb2); (try clear hk); (try clear hi)))
          go_ret
          exact ⟨by first | rfl | (simp [errW_none, errW_some] <;> rfl) | (simp [*, errW_none, errW_some] <;> rfl), by repeat (first | (with_reducible first | exact HB.out | apply below_alloc | apply pw_below_drewN | apply below_drew1) | exact HB.out)⟩
        · rw [if_neg c30] at H
          have c30b0 : (t219 == t220) = false := beq_eq_false_iff_ne.mpr c30
          (try have c30b0z5 : (t219 == t211) = false := by rw [show t211 = t220 from Option.some.inj (A5.out.symm.trans A29.out)]; exact c30b0)
          (try have c30b0z6 : (t219 == t212) = false := by rw [show t212 = t220 from Option.some.inj (A6.out.symm.trans A29.out)]; exact c30b0)
          (try have c30b0z7 : (t219 == t213) = false := by rw [show t213 = t220 from Option.some.inj (A7.out.symm.trans A29.out)]; exact c30b0)
          (try have c30b0z11 : (t219 == t214) = false := by rw [show t214 = t220 from Option.some.inj (A11.out.symm.trans A29.out)]; exact c30b0)
          (try have c30b0z12 : (t219 == t215) = false := by rw [show t215 = t220 from Option.some.inj (A12.out.symm.trans A29.out)]; exact c30b0)
          (try have c30b0z13 : (t219 == t216) = false := by rw [show t216 = t220 from Option.some.inj (A13.out.symm.trans A29.out)]; exact c30b0)
          (try have c30b0z27 : (t219 == t218) = false := by rw [show t218 = t220 from Option.some.inj (A27.out.symm.trans A29.out)]; exact c30b0)
          (try have c30b0z31 : (t219 == t221) = false := by rw [show t221 = t220 from Option.some.inj (A31.out.symm.trans A29.out)]; exact c30b0)
          have c30b1 : (t219 != t220) = true := bne_iff_ne.mpr c30
          (try have c30b1z5 : (t219 != t211) = true := by rw [show t211 = t220 from Option.some.inj (A5.out.symm.trans A29.out)]; exact c30b1)
          (try have c30b1z6 : (t219 != t212) = true := by rw [show t212 = t220 from Option.some.inj (A6.out.symm.trans A29.out)]; exact c30b1)
          (try have c30b1z7 : (t219 != t213) = true := by rw [show t213 = t220 from Option.some.inj (A7.out.symm.trans A29.out)]; exact c30b1)
          (try have c30b1z11 : (t219 != t214) = true := by rw [show t214 = t220 from Option.some.inj (A11.out.symm.trans A29.out)]; exact c30b1)
          (try have c30b1z12 : (t219 != t215) = true := by rw [show t215 = t220 from Option.some.inj (A12.out.symm.trans A29.out)]; exact c30b1)
          (try have c30b1z13 : (t219 != t216) = true := by rw [show t216 = t220 from Option.some.inj (A13.out.symm.trans A29.out)]; exact c30b1)
          (try have c30b1z27 : (t219 != t218) = true := by rw [show t218 = t220 from Option.some.inj (A27.out.symm.trans A29.out)]; exact c30b1)
          (try have c30b1z31 : (t219 != t221) = true := by rw [show t221 = t220 from Option.some.inj (A31.out.symm.trans A29.out)]; exact c30b1)
          obtain rfl := Option.some.inj H
          go_enter Try.func13, Try.ntmps13
          go_wp2_with (first | ((with_reducible refine gate_callee (f := 35) rfl ?_); refine goesL_ (some 12) rfl rfl Try.func35 (by kernel_rfl) rfl #[.int .i64 a0] rfl (by (try simp only [List.map_toArray, List.map_cons, List.map_nil]); first | done | rfl | (simp only [List.length_drop, List.length_take]; rfl)) ?_; (with_reducible refine (mirror_Pair.calls a0 t207 t208 _ A3.out).mono ?_); rintro e w36 ⟨rfl, hb⟩; refine ⟨_, rfl, ?_⟩; have n0_ := Aside0.mk (below_step (by repeat (first | (with_reducible first | exact HB.out | apply below_alloc | apply pw_below_drewN | apply below_drew1) | exact HB.out)) hb); clear HB; have HB := n0_; clear n0_; (try clear hb); (try clear hb2); (try clear hk); (try clear hi)) | ((with_reducible refine gate_callee (f := 35) rfl ?_); refine goesL_ (some 17) rfl rfl Try.func35 (by kernel_rfl) rfl #[.int .i64 a1] rfl (by (try simp only [List.map_toArray, List.map_cons, List.map_nil]); first | done | rfl | (simp only [List.length_drop, List.length_take]; rfl)) ?_; (with_reducible refine (mirror_Pair.calls a1 t209 t210 _ A4.out).mono ?_); rintro e w37 ⟨rfl, hb⟩; refine ⟨_, rfl, ?_⟩; have n0_ := Aside0.mk (below_step (by repeat (first | (with_reducible first | exact HB.out | apply below_alloc | apply pw_below_drewN | apply below_drew1) | exact HB.out)) hb); clear HB; have HB := n0_; clear n0_; (try clear hb); (try clear hb2); (try clear hk); (try clear hi)) | ((with_reducible refine gate_callee (f := 28) rfl ?_); refine goesL_ (some 21) rfl rfl Try.func28 (by kernel_rfl) rfl #[.int .i64 t208] rfl (by (try simp only [List.map_toArray, List.map_cons, List.map_nil]); first | done | rfl | (simp only [List.length_drop, List.length_take]; rfl)) ?_; (with_reducible refine (mirror_Form.calls t208 t211 _ A5.out).mono ?_); rintro e w' ⟨rfl, ⟨nd, rfl⟩⟩; refine ⟨_, rfl, ?_⟩) | ((with_reducible refine gate_callee (f := 28) rfl ?_); refine goesL_ (some 23) rfl rfl Try.func28 (by kernel_rfl) rfl #[.int .i64 a1] rfl (by (try simp only [List.map_toArray, List.map_cons, List.map_nil]); first | done | rfl | (simp only [List.length_drop, List.length_take]; rfl)) ?_; (with_reducible refine (mirror_Form.calls a1 t212 _ A6.out).mono ?_); rintro e w' ⟨rfl, ⟨nd, rfl⟩⟩; refine ⟨_, rfl, ?_⟩) | ((with_reducible refine gate_callee (f := 31) rfl ?_); refine goesL_ (some 27) rfl rfl Try.func31 (by kernel_rfl) rfl #[.int .i64 a0, .int .i64 a1] rfl (by (try simp only [List.map_toArray, List.map_cons, List.map_nil]); first | done | rfl | (simp only [List.length_drop, List.length_take]; rfl)) ?_; (with_reducible refine (mirror_Meet.calls a0 a1 t213 _ A7.out).mono ?_); rintro e w38 ⟨rfl, hb⟩; refine ⟨_, rfl, ?_⟩; have n0_ := Aside0.mk (below_step (by repeat (first | (with_reducible first | exact HB.out | apply below_alloc | apply pw_below_drewN | apply below_drew1) | exact HB.out)) hb); clear HB; have HB := n0_; clear n0_; (try clear hb); (try clear hb2); (try clear hk); (try clear hi)) | (go_at_call 28; (with_reducible refine (mirror_Form.calls a1 t218 _ A27.out).mono ?_); rintro e w' ⟨rfl, ⟨nd, rfl⟩⟩) | (go_at_call 28; (with_reducible refine (mirror_Form.calls t218 t219 _ A28.out).mono ?_); rintro e w' ⟨rfl, ⟨nd, rfl⟩⟩) | (go_at_call 28; (with_reducible refine (mirror_Form.calls a1 t220 _ A29.out).mono ?_); rintro e w' ⟨rfl, ⟨nd, rfl⟩⟩))
          go_ret
          exact ⟨by first | rfl | (simp [errW_none, errW_some] <;> rfl) | (simp [*, errW_none, errW_some] <;> rfl), by repeat (first | (with_reducible first | exact HB.out | apply below_alloc | apply pw_below_drewN | apply below_drew1) | exact HB.out)⟩
      · rw [if_neg c26] at H
        have c26b0 : (t213 == false) = false := by simpa using c26
        (try (have c26b1 : decide (t213 = false) = false := by simpa using c26))
        (try (have c26b2 : (t213 == false) = false := by simpa using c26))
        (try (have c26b3 : ¬ (t213 = false) := by simpa using c26))
        clear c26
        obtain rfl := Option.some.inj H
        go_enter Try.func13, Try.ntmps13
        go_wp2_with (first | ((with_reducible refine gate_callee (f := 35) rfl ?_); refine goesL_ (some 12) rfl rfl Try.func35 (by kernel_rfl) rfl #[.int .i64 a0] rfl (by (try simp only [List.map_toArray, List.map_cons, List.map_nil]); first | done | rfl | (simp only [List.length_drop, List.length_take]; rfl)) ?_; (with_reducible refine (mirror_Pair.calls a0 t207 t208 _ A3.out).mono ?_); rintro e w39 ⟨rfl, hb⟩; refine ⟨_, rfl, ?_⟩; have n0_ := Aside0.mk (below_step (by repeat (first | (with_reducible first | exact HB.out | apply below_alloc | apply pw_below_drewN | apply below_drew1) | exact HB.out)) hb); clear HB; have HB := n0_; clear n0_; (try clear hb); (try clear hb2); (try clear hk); (try clear hi)) | ((with_reducible refine gate_callee (f := 35) rfl ?_); refine goesL_ (some 17) rfl rfl Try.func35 (by kernel_rfl) rfl #[.int .i64 a1] rfl (by (try simp only [List.map_toArray, List.map_cons, List.map_nil]); first | done | rfl | (simp only [List.length_drop, List.length_take]; rfl)) ?_; (with_reducible refine (mirror_Pair.calls a1 t209 t210 _ A4.out).mono ?_); rintro e w40 ⟨rfl, hb⟩; refine ⟨_, rfl, ?_⟩; have n0_ := Aside0.mk (below_step (by repeat (first | (with_reducible first | exact HB.out | apply below_alloc | apply pw_below_drewN | apply below_drew1) | exact HB.out)) hb); clear HB; have HB := n0_; clear n0_; (try clear hb); (try clear hb2); (try clear hk); (try clear hi)) | ((with_reducible refine gate_callee (f := 28) rfl ?_); refine goesL_ (some 21) rfl rfl Try.func28 (by kernel_rfl) rfl #[.int .i64 t208] rfl (by (try simp only [List.map_toArray, List.map_cons, List.map_nil]); first | done | rfl | (simp only [List.length_drop, List.length_take]; rfl)) ?_; (with_reducible refine (mirror_Form.calls t208 t211 _ A5.out).mono ?_); rintro e w' ⟨rfl, ⟨nd, rfl⟩⟩; refine ⟨_, rfl, ?_⟩) | ((with_reducible refine gate_callee (f := 28) rfl ?_); refine goesL_ (some 23) rfl rfl Try.func28 (by kernel_rfl) rfl #[.int .i64 a1] rfl (by (try simp only [List.map_toArray, List.map_cons, List.map_nil]); first | done | rfl | (simp only [List.length_drop, List.length_take]; rfl)) ?_; (with_reducible refine (mirror_Form.calls a1 t212 _ A6.out).mono ?_); rintro e w' ⟨rfl, ⟨nd, rfl⟩⟩; refine ⟨_, rfl, ?_⟩) | ((with_reducible refine gate_callee (f := 31) rfl ?_); refine goesL_ (some 27) rfl rfl Try.func31 (by kernel_rfl) rfl #[.int .i64 a0, .int .i64 a1] rfl (by (try simp only [List.map_toArray, List.map_cons, List.map_nil]); first | done | rfl | (simp only [List.length_drop, List.length_take]; rfl)) ?_; (with_reducible refine (mirror_Meet.calls a0 a1 t213 _ A7.out).mono ?_); rintro e w41 ⟨rfl, hb⟩; refine ⟨_, rfl, ?_⟩; have n0_ := Aside0.mk (below_step (by repeat (first | (with_reducible first | exact HB.out | apply below_alloc | apply pw_below_drewN | apply below_drew1) | exact HB.out)) hb); clear HB; have HB := n0_; clear n0_; (try clear hb); (try clear hb2); (try clear hk); (try clear hi)))
        go_ret
        exact ⟨by first | rfl | (simp [errW_none, errW_some] <;> rfl) | (simp [*, errW_none, errW_some] <;> rfl), by repeat (first | (with_reducible first | exact HB.out | apply below_alloc | apply pw_below_drewN | apply below_drew1) | exact HB.out)⟩
  · rw [if_neg c8] at H
    have c8b0 : (t207 == 1) = false := beq_eq_false_iff_ne.mpr c8
    have c8b1 : (t207 != 1) = true := bne_iff_ne.mpr c8
    by_cases c42 : (t213 == false) = true
    · rw [if_pos c42] at H
      have c42b0 : (t213 == false) = true := c42
      (try (have c42b1 : decide (t213 = false) = true := by simpa using c42))
      (try (have c42b2 : (t213 == false) = true := by simpa using c42))
      clear c42
      replace H := Option.bind_eq_some_iff.mp H
      obtain ⟨t222, A430, H⟩ := H
      replace H : ((mirror_Form.f t222).bind fun t223 => ((mirror_Form.f a1).bind fun t224 => (if t223 = t224 then ((parquetrylaw03_awake.f).bind fun t225 => (some t225)) else (some false)))) = some r := H
      have A43 := Aside0.mk A430
      clear A430
      replace H := Option.bind_eq_some_iff.mp H
      obtain ⟨t223, A440, H⟩ := H
      replace H : ((mirror_Form.f a1).bind fun t224 => (if t223 = t224 then ((parquetrylaw03_awake.f).bind fun t225 => (some t225)) else (some false))) = some r := H
      have A44 := Aside0.mk A440
      clear A440
      replace H := Option.bind_eq_some_iff.mp H
      obtain ⟨t224, A450, H⟩ := H
      replace H : (if t223 = t224 then ((parquetrylaw03_awake.f).bind fun t225 => (some t225)) else (some false)) = some r := H
      have A45 := Aside0.mk A450
      clear A450
      by_cases c46 : t223 = t224
      · rw [if_pos c46] at H
        have c46b0 : (t223 == t224) = true := beq_iff_eq.mpr c46
        (try have c46b0z5 : (t223 == t211) = true := by rw [show t211 = t224 from Option.some.inj (A5.out.symm.trans A45.out)]; exact c46b0)
        (try have c46b0z6 : (t223 == t212) = true := by rw [show t212 = t224 from Option.some.inj (A6.out.symm.trans A45.out)]; exact c46b0)
        (try have c46b0z7 : (t223 == t213) = true := by rw [show t213 = t224 from Option.some.inj (A7.out.symm.trans A45.out)]; exact c46b0)
        (try have c46b0z43 : (t223 == t222) = true := by rw [show t222 = t224 from Option.some.inj (A43.out.symm.trans A45.out)]; exact c46b0)
        have c46b1 : (t223 != t224) = false := bne_eq_false_iff_eq.mpr c46
        (try have c46b1z5 : (t223 != t211) = false := by rw [show t211 = t224 from Option.some.inj (A5.out.symm.trans A45.out)]; exact c46b1)
        (try have c46b1z6 : (t223 != t212) = false := by rw [show t212 = t224 from Option.some.inj (A6.out.symm.trans A45.out)]; exact c46b1)
        (try have c46b1z7 : (t223 != t213) = false := by rw [show t213 = t224 from Option.some.inj (A7.out.symm.trans A45.out)]; exact c46b1)
        (try have c46b1z43 : (t223 != t222) = false := by rw [show t222 = t224 from Option.some.inj (A43.out.symm.trans A45.out)]; exact c46b1)
        clear c46
        replace H := Option.bind_eq_some_iff.mp H
        obtain ⟨t225, A470, H⟩ := H
        replace H : (some t225) = some r := H
        have A47 := Aside0.mk A470
        clear A470
        obtain rfl := Option.some.inj H
        go_enter Try.func13, Try.ntmps13
        go_wp2_with (first | ((with_reducible refine gate_callee (f := 35) rfl ?_); refine goesL_ (some 12) rfl rfl Try.func35 (by kernel_rfl) rfl #[.int .i64 a0] rfl (by (try simp only [List.map_toArray, List.map_cons, List.map_nil]); first | done | rfl | (simp only [List.length_drop, List.length_take]; rfl)) ?_; (with_reducible refine (mirror_Pair.calls a0 t207 t208 _ A3.out).mono ?_); rintro e w48 ⟨rfl, hb⟩; refine ⟨_, rfl, ?_⟩; have n0_ := Aside0.mk (below_step (by repeat (first | (with_reducible first | exact HB.out | apply below_alloc | apply pw_below_drewN | apply below_drew1) | exact HB.out)) hb); clear HB; have HB := n0_; clear n0_; (try clear hb); (try clear hb2); (try clear hk); (try clear hi)) | ((with_reducible refine gate_callee (f := 35) rfl ?_); refine goesL_ (some 17) rfl rfl Try.func35 (by kernel_rfl) rfl #[.int .i64 a1] rfl (by (try simp only [List.map_toArray, List.map_cons, List.map_nil]); first | done | rfl | (simp only [List.length_drop, List.length_take]; rfl)) ?_; (with_reducible refine (mirror_Pair.calls a1 t209 t210 _ A4.out).mono ?_); rintro e w49 ⟨rfl, hb⟩; refine ⟨_, rfl, ?_⟩; have n0_ := Aside0.mk (below_step (by repeat (first | (with_reducible first | exact HB.out | apply below_alloc | apply pw_below_drewN | apply below_drew1) | exact HB.out)) hb); clear HB; have HB := n0_; clear n0_; (try clear hb); (try clear hb2); (try clear hk); (try clear hi)) | ((with_reducible refine gate_callee (f := 28) rfl ?_); refine goesL_ (some 21) rfl rfl Try.func28 (by kernel_rfl) rfl #[.int .i64 t208] rfl (by (try simp only [List.map_toArray, List.map_cons, List.map_nil]); first | done | rfl | (simp only [List.length_drop, List.length_take]; rfl)) ?_; (with_reducible refine (mirror_Form.calls t208 t211 _ A5.out).mono ?_); rintro e w' ⟨rfl, ⟨nd, rfl⟩⟩; refine ⟨_, rfl, ?_⟩) | ((with_reducible refine gate_callee (f := 28) rfl ?_); refine goesL_ (some 23) rfl rfl Try.func28 (by kernel_rfl) rfl #[.int .i64 a1] rfl (by (try simp only [List.map_toArray, List.map_cons, List.map_nil]); first | done | rfl | (simp only [List.length_drop, List.length_take]; rfl)) ?_; (with_reducible refine (mirror_Form.calls a1 t212 _ A6.out).mono ?_); rintro e w' ⟨rfl, ⟨nd, rfl⟩⟩; refine ⟨_, rfl, ?_⟩) | ((with_reducible refine gate_callee (f := 31) rfl ?_); refine goesL_ (some 27) rfl rfl Try.func31 (by kernel_rfl) rfl #[.int .i64 a0, .int .i64 a1] rfl (by (try simp only [List.map_toArray, List.map_cons, List.map_nil]); first | done | rfl | (simp only [List.length_drop, List.length_take]; rfl)) ?_; (with_reducible refine (mirror_Meet.calls a0 a1 t213 _ A7.out).mono ?_); rintro e w50 ⟨rfl, hb⟩; refine ⟨_, rfl, ?_⟩; have n0_ := Aside0.mk (below_step (by repeat (first | (with_reducible first | exact HB.out | apply below_alloc | apply pw_below_drewN | apply below_drew1) | exact HB.out)) hb); clear HB; have HB := n0_; clear n0_; (try clear hb); (try clear hb2); (try clear hk); (try clear hi)) | (go_at_call 28; (with_reducible refine (mirror_Form.calls a1 t222 _ A43.out).mono ?_); rintro e w' ⟨rfl, ⟨nd, rfl⟩⟩) | (go_at_call 28; (with_reducible refine (mirror_Form.calls t222 t223 _ A44.out).mono ?_); rintro e w' ⟨rfl, ⟨nd, rfl⟩⟩) | (go_at_call 28; (with_reducible refine (mirror_Form.calls a1 t224 _ A45.out).mono ?_); rintro e w' ⟨rfl, ⟨nd, rfl⟩⟩) | (go_at_call 30; (with_reducible refine (parquetrylaw03_awake.calls  t225 _ A47.out).mono ?_); rintro e w51 ⟨rfl, hb⟩; have n0_ := Aside0.mk (below_step (by repeat (first | (with_reducible first | exact HB.out | apply below_alloc | apply pw_below_drewN | apply below_drew1) | exact HB.out)) hb); clear HB; have HB := n0_; clear n0_; (try clear hb); (try clear hb2); (try clear hk); (try clear hi)))
        go_ret
        exact ⟨by first | rfl | (simp [errW_none, errW_some] <;> rfl) | (simp [*, errW_none, errW_some] <;> rfl), by repeat (first | (with_reducible first | exact HB.out | apply below_alloc | apply pw_below_drewN | apply below_drew1) | exact HB.out)⟩
      · rw [if_neg c46] at H
        have c46b0 : (t223 == t224) = false := beq_eq_false_iff_ne.mpr c46
        (try have c46b0z5 : (t223 == t211) = false := by rw [show t211 = t224 from Option.some.inj (A5.out.symm.trans A45.out)]; exact c46b0)
        (try have c46b0z6 : (t223 == t212) = false := by rw [show t212 = t224 from Option.some.inj (A6.out.symm.trans A45.out)]; exact c46b0)
        (try have c46b0z7 : (t223 == t213) = false := by rw [show t213 = t224 from Option.some.inj (A7.out.symm.trans A45.out)]; exact c46b0)
        (try have c46b0z43 : (t223 == t222) = false := by rw [show t222 = t224 from Option.some.inj (A43.out.symm.trans A45.out)]; exact c46b0)
        (try have c46b0z47 : (t223 == t225) = false := by rw [show t225 = t224 from Option.some.inj (A47.out.symm.trans A45.out)]; exact c46b0)
        have c46b1 : (t223 != t224) = true := bne_iff_ne.mpr c46
        (try have c46b1z5 : (t223 != t211) = true := by rw [show t211 = t224 from Option.some.inj (A5.out.symm.trans A45.out)]; exact c46b1)
        (try have c46b1z6 : (t223 != t212) = true := by rw [show t212 = t224 from Option.some.inj (A6.out.symm.trans A45.out)]; exact c46b1)
        (try have c46b1z7 : (t223 != t213) = true := by rw [show t213 = t224 from Option.some.inj (A7.out.symm.trans A45.out)]; exact c46b1)
        (try have c46b1z43 : (t223 != t222) = true := by rw [show t222 = t224 from Option.some.inj (A43.out.symm.trans A45.out)]; exact c46b1)
        (try have c46b1z47 : (t223 != t225) = true := by rw [show t225 = t224 from Option.some.inj (A47.out.symm.trans A45.out)]; exact c46b1)
        obtain rfl := Option.some.inj H
        go_enter Try.func13, Try.ntmps13
        go_wp2_with (first | ((with_reducible refine gate_callee (f := 35) rfl ?_); refine goesL_ (some 12) rfl rfl Try.func35 (by kernel_rfl) rfl #[.int .i64 a0] rfl (by (try simp only [List.map_toArray, List.map_cons, List.map_nil]); first | done | rfl | (simp only [List.length_drop, List.length_take]; rfl)) ?_; (with_reducible refine (mirror_Pair.calls a0 t207 t208 _ A3.out).mono ?_); rintro e w52 ⟨rfl, hb⟩; refine ⟨_, rfl, ?_⟩; have n0_ := Aside0.mk (below_step (by repeat (first | (with_reducible first | exact HB.out | apply below_alloc | apply pw_below_drewN | apply below_drew1) | exact HB.out)) hb); clear HB; have HB := n0_; clear n0_; (try clear hb); (try clear hb2); (try clear hk); (try clear hi)) | ((with_reducible refine gate_callee (f := 35) rfl ?_); refine goesL_ (some 17) rfl rfl Try.func35 (by kernel_rfl) rfl #[.int .i64 a1] rfl (by (try simp only [List.map_toArray, List.map_cons, List.map_nil]); first | done | rfl | (simp only [List.length_drop, List.length_take]; rfl)) ?_; (with_reducible refine (mirror_Pair.calls a1 t209 t210 _ A4.out).mono ?_); rintro e w53 ⟨rfl, hb⟩; refine ⟨_, rfl, ?_⟩; have n0_ := Aside0.mk (below_step (by repeat (first | (with_reducible first | exact HB.out | apply below_alloc | apply pw_below_drewN | apply below_drew1) | exact HB.out)) hb); clear HB; have HB := n0_; clear n0_; (try clear hb); (try clear hb2); (try clear hk); (try clear hi)) | ((with_reducible refine gate_callee (f := 28) rfl ?_); refine goesL_ (some 21) rfl rfl Try.func28 (by kernel_rfl) rfl #[.int .i64 t208] rfl (by (try simp only [List.map_toArray, List.map_cons, List.map_nil]); first | done | rfl | (simp only [List.length_drop, List.length_take]; rfl)) ?_; (with_reducible refine (mirror_Form.calls t208 t211 _ A5.out).mono ?_); rintro e w' ⟨rfl, ⟨nd, rfl⟩⟩; refine ⟨_, rfl, ?_⟩) | ((with_reducible refine gate_callee (f := 28) rfl ?_); refine goesL_ (some 23) rfl rfl Try.func28 (by kernel_rfl) rfl #[.int .i64 a1] rfl (by (try simp only [List.map_toArray, List.map_cons, List.map_nil]); first | done | rfl | (simp only [List.length_drop, List.length_take]; rfl)) ?_; (with_reducible refine (mirror_Form.calls a1 t212 _ A6.out).mono ?_); rintro e w' ⟨rfl, ⟨nd, rfl⟩⟩; refine ⟨_, rfl, ?_⟩) | ((with_reducible refine gate_callee (f := 31) rfl ?_); refine goesL_ (some 27) rfl rfl Try.func31 (by kernel_rfl) rfl #[.int .i64 a0, .int .i64 a1] rfl (by (try simp only [List.map_toArray, List.map_cons, List.map_nil]); first | done | rfl | (simp only [List.length_drop, List.length_take]; rfl)) ?_; (with_reducible refine (mirror_Meet.calls a0 a1 t213 _ A7.out).mono ?_); rintro e w54 ⟨rfl, hb⟩; refine ⟨_, rfl, ?_⟩; have n0_ := Aside0.mk (below_step (by repeat (first | (with_reducible first | exact HB.out | apply below_alloc | apply pw_below_drewN | apply below_drew1) | exact HB.out)) hb); clear HB; have HB := n0_; clear n0_; (try clear hb); (try clear hb2); (try clear hk); (try clear hi)) | (go_at_call 28; (with_reducible refine (mirror_Form.calls a1 t222 _ A43.out).mono ?_); rintro e w' ⟨rfl, ⟨nd, rfl⟩⟩) | (go_at_call 28; (with_reducible refine (mirror_Form.calls t222 t223 _ A44.out).mono ?_); rintro e w' ⟨rfl, ⟨nd, rfl⟩⟩) | (go_at_call 28; (with_reducible refine (mirror_Form.calls a1 t224 _ A45.out).mono ?_); rintro e w' ⟨rfl, ⟨nd, rfl⟩⟩))
        go_ret
        exact ⟨by first | rfl | (simp [errW_none, errW_some] <;> rfl) | (simp [*, errW_none, errW_some] <;> rfl), by repeat (first | (with_reducible first | exact HB.out | apply below_alloc | apply pw_below_drewN | apply below_drew1) | exact HB.out)⟩
    · rw [if_neg c42] at H
      have c42b0 : (t213 == false) = false := by simpa using c42
      (try (have c42b1 : decide (t213 = false) = false := by simpa using c42))
      (try (have c42b2 : (t213 == false) = false := by simpa using c42))
      (try (have c42b3 : ¬ (t213 = false) := by simpa using c42))
      clear c42
      obtain rfl := Option.some.inj H
      go_enter Try.func13, Try.ntmps13
      go_wp2_with (first | ((with_reducible refine gate_callee (f := 35) rfl ?_); refine goesL_ (some 12) rfl rfl Try.func35 (by kernel_rfl) rfl #[.int .i64 a0] rfl (by (try simp only [List.map_toArray, List.map_cons, List.map_nil]); first | done | rfl | (simp only [List.length_drop, List.length_take]; rfl)) ?_; (with_reducible refine (mirror_Pair.calls a0 t207 t208 _ A3.out).mono ?_); rintro e w55 ⟨rfl, hb⟩; refine ⟨_, rfl, ?_⟩; have n0_ := Aside0.mk (below_step (by repeat (first | (with_reducible first | exact HB.out | apply below_alloc | apply pw_below_drewN | apply below_drew1) | exact HB.out)) hb); clear HB; have HB := n0_; clear n0_; (try clear hb); (try clear hb2); (try clear hk); (try clear hi)) | ((with_reducible refine gate_callee (f := 35) rfl ?_); refine goesL_ (some 17) rfl rfl Try.func35 (by kernel_rfl) rfl #[.int .i64 a1] rfl (by (try simp only [List.map_toArray, List.map_cons, List.map_nil]); first | done | rfl | (simp only [List.length_drop, List.length_take]; rfl)) ?_; (with_reducible refine (mirror_Pair.calls a1 t209 t210 _ A4.out).mono ?_); rintro e w56 ⟨rfl, hb⟩; refine ⟨_, rfl, ?_⟩; have n0_ := Aside0.mk (below_step (by repeat (first | (with_reducible first | exact HB.out | apply below_alloc | apply pw_below_drewN | apply below_drew1) | exact HB.out)) hb); clear HB; have HB := n0_; clear n0_; (try clear hb); (try clear hb2); (try clear hk); (try clear hi)) | ((with_reducible refine gate_callee (f := 28) rfl ?_); refine goesL_ (some 21) rfl rfl Try.func28 (by kernel_rfl) rfl #[.int .i64 t208] rfl (by (try simp only [List.map_toArray, List.map_cons, List.map_nil]); first | done | rfl | (simp only [List.length_drop, List.length_take]; rfl)) ?_; (with_reducible refine (mirror_Form.calls t208 t211 _ A5.out).mono ?_); rintro e w' ⟨rfl, ⟨nd, rfl⟩⟩; refine ⟨_, rfl, ?_⟩) | ((with_reducible refine gate_callee (f := 28) rfl ?_); refine goesL_ (some 23) rfl rfl Try.func28 (by kernel_rfl) rfl #[.int .i64 a1] rfl (by (try simp only [List.map_toArray, List.map_cons, List.map_nil]); first | done | rfl | (simp only [List.length_drop, List.length_take]; rfl)) ?_; (with_reducible refine (mirror_Form.calls a1 t212 _ A6.out).mono ?_); rintro e w' ⟨rfl, ⟨nd, rfl⟩⟩; refine ⟨_, rfl, ?_⟩) | ((with_reducible refine gate_callee (f := 31) rfl ?_); refine goesL_ (some 27) rfl rfl Try.func31 (by kernel_rfl) rfl #[.int .i64 a0, .int .i64 a1] rfl (by (try simp only [List.map_toArray, List.map_cons, List.map_nil]); first | done | rfl | (simp only [List.length_drop, List.length_take]; rfl)) ?_; (with_reducible refine (mirror_Meet.calls a0 a1 t213 _ A7.out).mono ?_); rintro e w57 ⟨rfl, hb⟩; refine ⟨_, rfl, ?_⟩; have n0_ := Aside0.mk (below_step (by repeat (first | (with_reducible first | exact HB.out | apply below_alloc | apply pw_below_drewN | apply below_drew1) | exact HB.out)) hb); clear HB; have HB := n0_; clear n0_; (try clear hb); (try clear hb2); (try clear hk); (try clear hi)))
      go_ret
      exact ⟨by first | rfl | (simp [errW_none, errW_some] <;> rfl) | (simp [*, errW_none, errW_some] <;> rfl), by repeat (first | (with_reducible first | exact HB.out | apply below_alloc | apply pw_below_drewN | apply below_drew1) | exact HB.out)⟩

/-- THE ONE PURE STATEMENT of parquetrylaw03_MirrorAlone: yours. -/
def parquetrylaw03_MirrorAlone.Pure : Prop := ∀ (a0 : Int) (a1 : Int), (Lit.int .i64 a0).wf = true → (Lit.int .i64 a1).wf = true → parquetrylaw03_MirrorAlone.f a0 a1 = some true
theorem parquetrylaw03_MirrorAlone.walk (P : parquetrylaw03_MirrorAlone.Pure) (a0 : Int) (a1 : Int) (w : World) (w0 : (Lit.int .i64 a0).wf = true) (w1 : (Lit.int .i64 a1).wf = true) :
    Calls Try.prog 13 #[.int .i64 a0, .int .i64 a1] w fun e w' => e = .returned (.bool true) ∧ Below w.heap.size w w' := by
  have h := P a0 a1 w0 w1
  refine (parquetrylaw03_MirrorAlone.calls a0 a1 true w h).mono ?_
  rintro e w' ⟨rfl, hd⟩
  exact ⟨rfl, hd⟩

end Go.Proofs.Ytdelmgoapdajpaa.PC03
