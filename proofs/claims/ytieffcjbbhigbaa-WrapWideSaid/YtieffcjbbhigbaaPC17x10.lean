/- For the laws of the group C17: the Lean functions that the Go functions compute, and proofs that they do. Written by wip/hprint.py of this repo over the kit's printer; nothing here is trusted: Lean checks it. -/
import Derived.Test.YtieffcjbbhigbaaPC17x0
import Derived.Test.YtieffcjbbhigbaaPC17x4
import Derived.Test.YtieffcjbbhigbaaPC17x8
import Derived.Test.YtieffcjbbhigbaaPC17x9
namespace Go.Proofs.Ytieffcjbbhigbaa.PC17
open Go.RowKit Go.Proofs.YtieffcjbbhigbaaW.PrintWords Go.Proofs.YtieffcjbbhigbaaW.PrintLast Go.Proofs.YtieffcjbbhigbaaW.PrintMore
attribute [local go_sem] max2_int min2_int max_two min_two max_three min_three max_four min_four   -- for this text's walks alone
set_option linter.unusedVariables false
set_option linter.unusedSimpArgs false

/-! ### parquetryref01_Split: function 50 -/
def parquetryref01_Split.l0 : Nat → ByteArray → List (S89) → Int → Option ((List (S89)))
 | 0, _, _, _ => none
 | k + 1, x0, x3, x4 => if x4 < (x0.size : Int) then (if 0 ≤ x4 then (if x4 ≤ (x0.size : Int) then ((parquetryref01_first.f k (x0.extract (x4 : Int).toNat x0.size)).bind fun bt189 => (if x3.length < 5864062014805 then (parquetryref01_Split.l0 k x0 (x3 ++ [(⟨x4, bt189.2, bt189.1⟩ : S89)]) (wrap64 (x4 + bt189.2))) else (none))) else (none)) else (none)) else (some x3)
def parquetryref01_Split.f (k : Nat) (a0 : ByteArray) : Option ((List (S89))) := parquetryref01_Split.l0 k a0 ([] : List (S89)) 0
theorem parquetryref01_Split.mono_l : ∀ k, (∀ y0 y1 y2, LeO (parquetryref01_Split.l0 k y0 y1 y2) (parquetryref01_Split.l0 (k + 1) y0 y1 y2))
 | 0 => fun _ _ _ r h => by simp [parquetryref01_Split.l0] at h
 | k + 1 => by
  have ih0 := parquetryref01_Split.mono_l k
  ·
   intro y0 y1 y2
   unfold parquetryref01_Split.l0
   repeat' first
   | (with_reducible exact ih0 _ _ _)
   | (with_reducible exact parquetryref01_first.mono _ _)
   | (with_reducible exact LeO.refl _)
   | (with_reducible exact LeO.none _)
   | (with_reducible refine LeO.ite ?_ ?_)
   | (with_reducible refine LeO.bind ?_ (fun _ => ?_))
   | exact ih0 _ _ _
   | exact parquetryref01_first.mono _ _
   | exact LeO.none _
   | refine LeO.ite ?_ ?_
   | refine LeO.bind ?_ (fun _ => ?_)
theorem parquetryref01_Split.mono : ∀ a0 k, LeO (parquetryref01_Split.f k a0) (parquetryref01_Split.f (k + 1) a0) := by
 intro a0 k
 have ih0 := parquetryref01_Split.mono_l k
 unfold parquetryref01_Split.f
 repeat' first
   | (with_reducible exact ih0 _ _ _)
   | (with_reducible exact parquetryref01_first.mono _ _)
   | (with_reducible exact LeO.refl _)
   | (with_reducible exact LeO.none _)
   | (with_reducible refine LeO.ite ?_ ?_)
   | (with_reducible refine LeO.bind ?_ (fun _ => ?_))
   | exact ih0 _ _ _
   | exact parquetryref01_first.mono _ _
   | exact LeO.none _
   | refine LeO.ite ?_ ?_
   | refine LeO.bind ?_ (fun _ => ?_)
set_option maxHeartbeats 8000000 in
set_option maxRecDepth 100000 in
theorem parquetryref01_Split.calls (k : Nat) (a0 : ByteArray) (r : List (S89)) (w : World) (h : parquetryref01_Split.f k a0 = some r) :
  Calls Try.prog 50 #[.string a0] w fun e w' => ∃ v0_ : Value, e = .returned (v0_) ∧ Kd.R k89 89 w' w.heap.size (fun _ => True) v0_ r ∧ Below w.heap.size w w' := by
 have hu89 := Try.underlying89
 have HB := Aside0.mk (Below.refl w.heap.size w)
 have H : (parquetryref01_Split.l0 k a0 ([] : List (S89)) 0) = some r := h
 clear h
 have H' := Aside0.mk H
 clear H
 go_enter Try.func50, Try.ntmps50
 try dsimp only [List.append]
 go_wp2
 go_loopg [3, 4] k (fun kq v3 v4 w' => ∃ (x3_1 : List (S89)) (x4_1 : Int), v4 = .int .i64 x4_1 ∧ Aside0 (parquetryref01_Split.l0 kq a0 x3_1 x4_1 = some r) ∧ Aside0 (kq ≤ k) ∧ Aside0 (Kd.R k89 89 w' w.heap.size (fun _ => True) v3 x3_1) ∧ Aside0 (Below w.heap.size w w'))
 case atStart => exact ⟨(([] : List (S89))), (0), (by first | rfl | (simp; done) | (simp [*]; done)), H', ⟨Nat.le_refl _⟩, ⟨by first | exact Kd.R_nil _ _ _ _ _ | exact Kd.N_nil _ _ _ _ _ | exact Kd.V_nil _ _ _ _ _ | exact Kd.Q_nil _ _ _ _ _ | exact Kd.S_nil _ _ _ _ _⟩, ⟨by repeat (first | (with_reducible first | exact HB.out | apply below_alloc | apply pw_below_drewN | apply below_drew1) | exact HB.out)⟩⟩
 case round =>
  clear H'
  obtain ⟨x3_1, x4_1, rfl, HA, HK1, HO_3, HB⟩ := hrel
  cases gk with
  | zero => exact absurd HA.out (by simp [parquetryref01_Split.l0])
  | succ k1 =>
   have H := HA.out
   clear HA
   simp only [parquetryref01_Split.l0] at H
   by_cases c2 : x4_1 < (a0.size : Int)
   ·
    rw [if_pos c2] at H
    have c2b0 : decide (x4_1 < (a0.size : Int)) = true := decide_eq_true c2
    clear c2
    by_cases c3 : 0 ≤ x4_1
    ·
     rw [if_pos c3] at H
     have c3b0 := eq_true c3
     have c3b1 : decide (0 ≤ x4_1) = true := decide_eq_true c3
     clear c3
     by_cases c4 : x4_1 ≤ (a0.size : Int)
     ·
      rw [if_pos c4] at H
      have c4b0 := eq_true c4
      have c4b1 : decide (x4_1 ≤ (a0.size : Int)) = true := decide_eq_true c4
      clear c4
      replace H := Option.bind_eq_some_iff.mp H
      obtain ⟨⟨t189, t190⟩, A50, H⟩ := H
      replace H : (if x3_1.length < 5864062014805 then (parquetryref01_Split.l0 k1 a0 (x3_1 ++ [(⟨x4_1, t190, t189⟩ : S89)]) (wrap64 (x4_1 + t190))) else (none)) = some r := H
      have A5 := Aside0.mk A50
      clear A50
      by_cases c6 : x3_1.length < 5864062014805
      ·
       rw [if_pos c6] at H
       have LMc6 := Aside0.mk c6
       clear c6
       obtain ⟨y191, hy191⟩ : ∃ y_ : List (S89), y_ = (x3_1 ++ [(⟨x4_1, t190, t189⟩ : S89)]) := ⟨_, rfl⟩
       replace H : (parquetryref01_Split.l0 k1 a0 y191 (wrap64 (x4_1 + t190))) = some r := by first | (rw [hy191]; with_reducible exact H) | (have H2_ := (Option.bind_some _ _).symm.trans H; rw [hy191]; with_reducible exact H2_) | (have H2_ := (Option.bind_some _ _).symm.trans H; with_reducible exact H2_) | with_reducible exact H | (rw [hy191]; exact H) | exact H
       have Ny191 := Aside0.mk hy191
       clear hy191
       have H' := Aside0.mk H
       clear H
       go_wp2_with (first | ((with_reducible refine gate_callee (f := 56) rfl ?_); refine goesL_ (some 15) rfl rfl Try.func56 (by kernel_rfl) rfl #[.string (a0.extract (x4_1 : Int).toNat a0.size)] rfl (by (try simp only [List.map_toArray, List.map_cons, List.map_nil]); first | done | rfl | (simp only [List.length_drop, List.length_take]; rfl)) ?_; (with_reducible refine (parquetryref01_first.calls k1 (a0.extract (x4_1 : Int).toNat a0.size) t189 t190 _ A5.out).mono ?_); rintro e w7 ⟨rfl, hb⟩; refine ⟨_, rfl, ?_⟩; have n0_ := Aside0.mk (Kd.R_below (by (with_reducible repeat (first | apply Kd.R_alloc | apply Kd.R_drewN | apply Kd.R_drew)); exact HO_3.out) hb); have n1_ := Aside0.mk (below_step (by repeat (first | (with_reducible first | exact HB.out | apply below_alloc | apply pw_below_drewN | apply below_drew1) | exact HB.out)) hb); clear HO_3; clear HB; have HO_3 := n0_; have HB := n1_; clear n0_ n1_; (try clear hb); (try clear hb2); (try clear hk); (try clear hi)) | ((with_reducible refine gate_builtin (b := .append) (xs := #[.tmp 18, .tmp 23]) rfl ?_); at_builtin; refine Kd.R_append k89 (w0 := w) w.heap.size rfl (.tmp 18) (.tmp 23) 83 89 (.agg #[(.int .i64 0), (.int .i64 0), (.int .i64 0)]) 24 rfl Try.underlying83 info89 rfl (by decide) (by omega) u3 x3_1 (⟨x4_1, t190, t189⟩ : S89) [.int .i64 x4_1, .int .i64 t190, .int .i64 t189] (fun _ => True) (fun _ => False) rfl rfl ?aP (fun _ hk => hk.elim) ?aF ?aO ?aB ?aS ?aL ?_; (case aP => exact k89_mkM _ _ _ (⟨x4_1, t190, t189⟩ : S89)); (case aB => exact (by repeat (first | (with_reducible first | exact HB.out | apply below_alloc | apply pw_below_drewN | apply below_drew1) | exact HB.out))); (case aF => exact (fun _ _ => trivial)); (case aO => exact (by (with_reducible repeat (first | apply Kd.R_alloc | apply Kd.R_drewN | apply Kd.R_drew)); exact HO_3.out)); (case aS => exact (below_size (by repeat (first | (with_reducible first | exact HB.out | apply below_alloc | apply pw_below_drewN | apply below_drew1) | exact HB.out)))); (case aL => have := LMc6.out; omega); intro v192 w8 ho hb hg hat; rw [← Ny191.out] at ho; have n0_ := Aside0.mk (hb); have n1_ := Aside0.mk (ho); clear HB; clear HO_3; have HB := n0_; have HO193 := n1_; clear n0_ n1_; clear ho hb hg hat))
       go_roundg k1
       case measure => have := HK1.out; omega
       case rel => exact ⟨(y191), (wrap64 (x4_1 + t190)), (by first | rfl | (simp; done) | (simp [*]; done)), H', ⟨by have := HK1.out; omega⟩, ⟨by (with_reducible repeat (first | apply Kd.R_alloc | apply Kd.R_drewN | apply Kd.R_drew)); exact HO193.out⟩, ⟨by repeat (first | (with_reducible first | exact HB.out | apply below_alloc | apply pw_below_drewN | apply below_drew1) | exact HB.out)⟩⟩
      ·
       rw [if_neg c6] at H
       exact absurd H (by simp)
     ·
      rw [if_neg c4] at H
      exact absurd H (by simp)
    ·
     rw [if_neg c3] at H
     exact absurd H (by simp)
   ·
    rw [if_neg c2] at H
    have c2b0 : decide (x4_1 < (a0.size : Int)) = false := decide_eq_false c2
    clear c2
    obtain rfl := Option.some.inj H
    go_wp2
    go_ret
    exact ⟨_, by first | rfl | (simp [errW_none, errW_some] <;> rfl) | (simp [*, errW_none, errW_some] <;> rfl), by (with_reducible repeat (first | apply Kd.R_alloc | apply Kd.R_drewN | apply Kd.R_drew)); exact HO_3.out, by repeat (first | (with_reducible first | exact HB.out | apply below_alloc | apply pw_below_drewN | apply below_drew1) | exact HB.out)⟩

/-! ### parquetryref06_Split: function 41 -/
def parquetryref06_Split.f (k : Nat) (a0 : ByteArray) : Option ((List (S39))) := (parquetryref01_Split.f k a0).bind fun t194 => ((parquetryref06_Of.f k t194).bind fun t197 => (some t197))
theorem parquetryref06_Split.mono : ∀ a0 k, LeO (parquetryref06_Split.f k a0) (parquetryref06_Split.f (k + 1) a0) := by
 intro a0 k
 unfold parquetryref06_Split.f
 repeat' first
   | (with_reducible exact parquetryref01_Split.mono _ _)
   | (with_reducible exact parquetryref06_Of.mono _ _)
   | (with_reducible exact LeO.refl _)
   | (with_reducible exact LeO.none _)
   | (with_reducible refine LeO.ite ?_ ?_)
   | (with_reducible refine LeO.bind ?_ (fun _ => ?_))
   | exact parquetryref01_Split.mono _ _
   | exact parquetryref06_Of.mono _ _
   | exact LeO.none _
   | refine LeO.ite ?_ ?_
   | refine LeO.bind ?_ (fun _ => ?_)
set_option maxHeartbeats 8000000 in
set_option maxRecDepth 100000 in
theorem parquetryref06_Split.calls (k : Nat) (a0 : ByteArray) (r : List (S39)) (w : World) (h : parquetryref06_Split.f k a0 = some r) :
  Calls Try.prog 41 #[.string a0] w fun e w' => ∃ v0_ : Value, e = .returned (v0_) ∧ Kd.R k39 39 w' w.heap.size (fun _ => True) v0_ r ∧ Below w.heap.size w w' := by
 have HB := Aside0.mk (Below.refl w.heap.size w)
 have H : ((parquetryref01_Split.f k a0).bind fun t194 => ((parquetryref06_Of.f k t194).bind fun t197 => (some t197))) = some r := h
 clear h
 replace H := Option.bind_eq_some_iff.mp H
 obtain ⟨t194, A20, H⟩ := H
 replace H : ((parquetryref06_Of.f k t194).bind fun t197 => (some t197)) = some r := H
 have A2 := Aside0.mk A20
 clear A20
 replace H := Option.bind_eq_some_iff.mp H
 obtain ⟨t197, A30, H⟩ := H
 replace H : (some t197) = some r := H
 have A3 := Aside0.mk A30
 clear A30
 obtain rfl := Option.some.inj H
 go_enter Try.func41, Try.ntmps41
 go_wp2_with (first | ((with_reducible refine gate_callee (f := 50) rfl ?_); refine goesL_ (some 4) rfl rfl Try.func50 (by kernel_rfl) rfl #[.string a0] rfl (by (try simp only [List.map_toArray, List.map_cons, List.map_nil]); first | done | rfl | (simp only [List.length_drop, List.length_take]; rfl)) ?_; (with_reducible refine (parquetryref01_Split.calls k a0 t194 _ A2.out).mono ?_); rintro e w4 ⟨v195, rfl, ho0, hb⟩; refine ⟨_, rfl, ?_⟩; have n0_ := Aside0.mk (Kd.R_lower ho0 (below_size (by repeat (first | (with_reducible first | exact HB.out | apply below_alloc | apply pw_below_drewN | apply below_drew1) | exact HB.out)))); have n1_ := Aside0.mk (below_step (by repeat (first | (with_reducible first | exact HB.out | apply below_alloc | apply pw_below_drewN | apply below_drew1) | exact HB.out)) hb); clear HB; have HO196 := n0_; have HB := n1_; clear n0_ n1_; (try clear hb); (try clear hb2); (try clear hk); (try clear hi); (try clear ho0); obtain ⟨Ao5, co5, eo5⟩ := Kd.R_slice HO196.out; subst eo5) | ((with_reducible refine gate_callee (f := 49) rfl ?_); refine goesL_ (some 5) rfl rfl Try.func49 (by kernel_rfl) rfl #[.slice Ao5 t194.length co5] rfl (by (try simp only [List.map_toArray, List.map_cons, List.map_nil]); first | done | rfl | (simp only [List.length_drop, List.length_take]; rfl)) ?_; (with_reducible refine (parquetryref06_Of.calls k _ _ t194 t197 _ ?side1 ?side2 A3.out).mono ?_); (case side1 => repeat (first | exact (Kd.R_reads' HO196.out).2.2 | (with_reducible refine Kd.C_alloc ?_ _) | (with_reducible refine Kd.C_drewN ?_ _) | (with_reducible refine Kd.C_drew ?_))); (case side2 => exact (Kd.R_reads' HO196.out).2.1); rintro e w6 ⟨v198, rfl, ho0, hb⟩; refine ⟨_, rfl, ?_⟩; have n0_ := Aside0.mk (Kd.R_below (by (with_reducible repeat (first | apply Kd.R_alloc | apply Kd.R_drewN | apply Kd.R_drew)); exact HO196.out) hb); have n1_ := Aside0.mk (Kd.R_lower ho0 (below_size (by repeat (first | (with_reducible first | exact HB.out | apply below_alloc | apply pw_below_drewN | apply below_drew1) | exact HB.out)))); have n2_ := Aside0.mk (below_step (by repeat (first | (with_reducible first | exact HB.out | apply below_alloc | apply pw_below_drewN | apply below_drew1) | exact HB.out)) hb); clear HO196; clear HB; have HO196 := n0_; have HO199 := n1_; have HB := n2_; clear n0_ n1_ n2_; (try clear hb); (try clear hb2); (try clear hk); (try clear hi); (try clear ho0)))
 go_ret
 exact ⟨_, by first | rfl | (simp [errW_none, errW_some] <;> rfl) | (simp [*, errW_none, errW_some] <;> rfl), by (with_reducible repeat (first | apply Kd.R_alloc | apply Kd.R_drewN | apply Kd.R_drew)); exact HO199.out, by repeat (first | (with_reducible first | exact HB.out | apply below_alloc | apply pw_below_drewN | apply below_drew1) | exact HB.out)⟩

/-! ### parquetrylaw17_shows: function 36: by hand -/
mutual
def parquetrylaw17_shows.l0 : Nat → ByteArray → List ByteArray → List (S39) → List (S29) → Int → Option (Bool)
 | 0, _, _, _, _, _ => none
 | k + 1, x0, x1, x5, x6, x7 => if x7 < (x6.length : Int) then (if 0 ≤ x7 then (if ((rd_T29 x6 x7).f0) < 0 then (parquetrylaw17_shows.j1 k x0 x1 x5 x6 x7 true) else (if ((rd_T29 x6 x7).f2) < ((rd_T29 x6 x7).f0) then (parquetrylaw17_shows.j1 k x0 x1 x5 x6 x7 true) else (parquetrylaw17_shows.j1 k x0 x1 x5 x6 x7 (decide (((rd_T29 x6 x7).f2) > (x5.length : Int)))))) else (none)) else (some true)
def parquetrylaw17_shows.j1 : Nat → ByteArray → List ByteArray → List (S39) → List (S29) → Int → Bool → Option (Bool)
 | 0, _, _, _, _, _, _ => none
 | k + 1, x0, x1, x5, x6, x7, x53 => if x53 = true then (none) else (if 0 ≤ x7 then (if x7 < (x6.length : Int) then (parquetrylaw17_shows.l1 k x0 x1 x5 x6 x7 (⟨#[]⟩ : ByteArray) ((rd_T29 x6 x7).f0)) else (none)) else (none))
def parquetrylaw17_shows.l1 : Nat → ByteArray → List ByteArray → List (S39) → List (S29) → Int → ByteArray → Int → Option (Bool)
 | 0, _, _, _, _, _, _, _ => none
 | k + 1, x0, x1, x5, x6, x7, x8, x9 => if 0 ≤ x7 then (if x7 < (x6.length : Int) then (if x9 < ((rd_T29 x6 x7).f2) then (if 0 ≤ x9 then (if x9 < (x5.length : Int) then (if 0 ≤ ((rd_T39 x5 x9).f0) then (if ((rd_T39 x5 x9).f0) ≤ (wrap64 (((rd_T39 x5 x9).f0) + ((rd_T39 x5 x9).f1))) then (if (wrap64 (((rd_T39 x5 x9).f0) + ((rd_T39 x5 x9).f1))) ≤ (x0.size : Int) then (if x8.size + (x0.extract (((rd_T39 x5 x9).f0) : Int).toNat ((wrap64 (((rd_T39 x5 x9).f0) + ((rd_T39 x5 x9).f1))) : Int).toNat).size ≤ 9223372036854775807 then (parquetrylaw17_shows.l1 k x0 x1 x5 x6 x7 (x8 ++ (x0.extract (((rd_T39 x5 x9).f0) : Int).toNat ((wrap64 (((rd_T39 x5 x9).f0) + ((rd_T39 x5 x9).f1))) : Int).toNat)) (wrap64 (x9 + 1))) else (none)) else (none)) else (none)) else (none)) else (none)) else (none)) else (if x7 < (x1.length : Int) then (if x8.toList = (rdOf ByteArray.empty x1 x7).toList then (if ((((rd_T29 x6 x7).f3) == 1) != ((wrap64 (x7 + 1)) == (x6.length : Int))) = true then (none) else (if ((rd_T29 x6 x7).f4) = 0 then (parquetrylaw17_shows.l0 k x0 x1 x5 x6 (wrap64 (x7 + 1))) else (none))) else (none)) else (none))) else (none)) else (none)
end
def parquetrylaw17_shows.f (k : Nat) (a0 : ByteArray) (l1 : List ByteArray) : Option (Bool) := (parquetryref06_Split.f k a0).bind fun t200 => ((wrap_Lines.f k t200 5 1).bind fun t203 => (if (t203.length : Int) = (l1.length : Int) then (parquetrylaw17_shows.l0 k a0 l1 t200 t203 0) else (none)))
theorem parquetrylaw17_shows.mono_l : ∀ k, (∀ y0 y1 y2 y3 y4, LeO (parquetrylaw17_shows.l0 k y0 y1 y2 y3 y4) (parquetrylaw17_shows.l0 (k + 1) y0 y1 y2 y3 y4)) ∧ (∀ y0 y1 y2 y3 y4 y5, LeO (parquetrylaw17_shows.j1 k y0 y1 y2 y3 y4 y5) (parquetrylaw17_shows.j1 (k + 1) y0 y1 y2 y3 y4 y5)) ∧ (∀ y0 y1 y2 y3 y4 y5 y6, LeO (parquetrylaw17_shows.l1 k y0 y1 y2 y3 y4 y5 y6) (parquetrylaw17_shows.l1 (k + 1) y0 y1 y2 y3 y4 y5 y6))
 | 0 => ⟨fun _ _ _ _ _ r h => by simp [parquetrylaw17_shows.l0] at h, fun _ _ _ _ _ _ r h => by simp [parquetrylaw17_shows.j1] at h, fun _ _ _ _ _ _ _ r h => by simp [parquetrylaw17_shows.l1] at h⟩
 | k + 1 => by
  obtain ⟨ih0, ih1, ih2⟩ := parquetrylaw17_shows.mono_l k
  refine ⟨?_, ?_, ?_⟩
  ·
   intro y0 y1 y2 y3 y4
   unfold parquetrylaw17_shows.l0
   repeat' first
   | (with_reducible exact ih0 _ _ _ _ _)
   | (with_reducible exact ih1 _ _ _ _ _ _)
   | (with_reducible exact ih2 _ _ _ _ _ _ _)
   | (with_reducible exact parquetryref06_Split.mono _ _)
   | (with_reducible exact wrap_Lines.mono _ _ _ _)
   | (with_reducible exact LeO.refl _)
   | (with_reducible exact LeO.none _)
   | (with_reducible refine LeO.ite ?_ ?_)
   | (with_reducible refine LeO.bind ?_ (fun _ => ?_))
   | exact ih0 _ _ _ _ _
   | exact ih1 _ _ _ _ _ _
   | exact ih2 _ _ _ _ _ _ _
   | exact parquetryref06_Split.mono _ _
   | exact wrap_Lines.mono _ _ _ _
   | exact LeO.none _
   | refine LeO.ite ?_ ?_
   | refine LeO.bind ?_ (fun _ => ?_)
  ·
   intro y0 y1 y2 y3 y4 y5
   unfold parquetrylaw17_shows.j1
   repeat' first
   | (with_reducible exact ih0 _ _ _ _ _)
   | (with_reducible exact ih1 _ _ _ _ _ _)
   | (with_reducible exact ih2 _ _ _ _ _ _ _)
   | (with_reducible exact parquetryref06_Split.mono _ _)
   | (with_reducible exact wrap_Lines.mono _ _ _ _)
   | (with_reducible exact LeO.refl _)
   | (with_reducible exact LeO.none _)
   | (with_reducible refine LeO.ite ?_ ?_)
   | (with_reducible refine LeO.bind ?_ (fun _ => ?_))
   | exact ih0 _ _ _ _ _
   | exact ih1 _ _ _ _ _ _
   | exact ih2 _ _ _ _ _ _ _
   | exact parquetryref06_Split.mono _ _
   | exact wrap_Lines.mono _ _ _ _
   | exact LeO.none _
   | refine LeO.ite ?_ ?_
   | refine LeO.bind ?_ (fun _ => ?_)
  ·
   intro y0 y1 y2 y3 y4 y5 y6
   unfold parquetrylaw17_shows.l1
   repeat' first
   | (with_reducible exact ih0 _ _ _ _ _)
   | (with_reducible exact ih1 _ _ _ _ _ _)
   | (with_reducible exact ih2 _ _ _ _ _ _ _)
   | (with_reducible exact parquetryref06_Split.mono _ _)
   | (with_reducible exact wrap_Lines.mono _ _ _ _)
   | (with_reducible exact LeO.refl _)
   | (with_reducible exact LeO.none _)
   | (with_reducible refine LeO.ite ?_ ?_)
   | (with_reducible refine LeO.bind ?_ (fun _ => ?_))
   | exact ih0 _ _ _ _ _
   | exact ih1 _ _ _ _ _ _
   | exact ih2 _ _ _ _ _ _ _
   | exact parquetryref06_Split.mono _ _
   | exact wrap_Lines.mono _ _ _ _
   | exact LeO.none _
   | refine LeO.ite ?_ ?_
   | refine LeO.bind ?_ (fun _ => ?_)
theorem parquetrylaw17_shows.mono : ∀ a0 a1 k, LeO (parquetrylaw17_shows.f k a0 a1) (parquetrylaw17_shows.f (k + 1) a0 a1) := by
 intro a0 a1 k
 obtain ⟨ih0, ih1, ih2⟩ := parquetrylaw17_shows.mono_l k
 unfold parquetrylaw17_shows.f
 repeat' first
   | (with_reducible exact ih0 _ _ _ _ _)
   | (with_reducible exact ih1 _ _ _ _ _ _)
   | (with_reducible exact ih2 _ _ _ _ _ _ _)
   | (with_reducible exact parquetryref06_Split.mono _ _)
   | (with_reducible exact wrap_Lines.mono _ _ _ _)
   | (with_reducible exact LeO.refl _)
   | (with_reducible exact LeO.none _)
   | (with_reducible refine LeO.ite ?_ ?_)
   | (with_reducible refine LeO.bind ?_ (fun _ => ?_))
   | exact ih0 _ _ _ _ _
   | exact ih1 _ _ _ _ _ _
   | exact ih2 _ _ _ _ _ _ _
   | exact parquetryref06_Split.mono _ _
   | exact wrap_Lines.mono _ _ _ _
   | exact LeO.none _
   | refine LeO.ite ?_ ?_
   | refine LeO.bind ?_ (fun _ => ?_)
set_option maxHeartbeats 8000000 in
set_option maxRecDepth 100000 in
theorem parquetrylaw17_shows.calls (k : Nat) (a0 : ByteArray) (A1 : Option Addr) (c1 : Nat) (l1 : List ByteArray) (r : Bool) (w : World) (hr1 : Kd.C Kd.string w A1 l1.length l1) (hc1 : l1.length ≤ c1) (h : parquetrylaw17_shows.f k a0 l1 = some r) :
  Calls Try.prog 36 #[.string a0, .slice A1 l1.length c1] w fun e w' => e = .returned (.bool r) ∧ Below w.heap.size w w' := by
 have HR1 := Aside0.mk hr1
 have HC1 := Aside0.mk hc1
 clear hr1 hc1
 have HB := Aside0.mk (Below.refl w.heap.size w)
 have H : ((parquetryref06_Split.f k a0).bind fun t200 => ((wrap_Lines.f k t200 5 1).bind fun t203 => (if (t203.length : Int) = (l1.length : Int) then (parquetrylaw17_shows.l0 k a0 l1 t200 t203 0) else (none)))) = some r := h
 clear h
 replace H := Option.bind_eq_some_iff.mp H
 obtain ⟨t200, A30, H⟩ := H
 replace H : ((wrap_Lines.f k t200 5 1).bind fun t203 => (if (t203.length : Int) = (l1.length : Int) then (parquetrylaw17_shows.l0 k a0 l1 t200 t203 0) else (none))) = some r := H
 have A3 := Aside0.mk A30
 clear A30
 replace H := Option.bind_eq_some_iff.mp H
 obtain ⟨t203, A40, H⟩ := H
 replace H : (if (t203.length : Int) = (l1.length : Int) then (parquetrylaw17_shows.l0 k a0 l1 t200 t203 0) else (none)) = some r := H
 have A4 := Aside0.mk A40
 clear A40
 by_cases c5 : (t203.length : Int) = (l1.length : Int)
 ·
  rw [if_pos c5] at H
  have c5b0 : ((t203.length : Int) == (l1.length : Int)) = true := beq_iff_eq.mpr c5
  have c5b1 : ((t203.length : Int) != (l1.length : Int)) = false := bne_eq_false_iff_eq.mpr c5
  have c5b2 : (t203.length == l1.length) = true := by first | simpa using c5 | (simp at c5 ⊢; omega)
  clear c5
  have H' := Aside0.mk H
  clear H
  go_enter Try.func36, Try.ntmps36
  try dsimp only [List.append]
  go_wp2_with (first | (go_at_call 41; (with_reducible refine (parquetryref06_Split.calls k a0 t200 _ A3.out).mono ?_); rintro e w6 ⟨v201, rfl, ho0, hb⟩; have n0_ := Aside0.mk (Kd.R_lower ho0 (below_size (by repeat (first | (with_reducible first | exact HB.out | apply below_alloc | apply pw_below_drewN | apply below_drew1) | exact HB.out)))); have n1_ := Aside0.mk (below_step (by repeat (first | (with_reducible first | exact HB.out | apply below_alloc | apply pw_below_drewN | apply below_drew1) | exact HB.out)) hb); clear HB; have HO202 := n0_; have HB := n1_; clear n0_ n1_; (try clear hb); (try clear hb2); (try clear hk); (try clear hi); (try clear ho0); obtain ⟨Ao7, co7, eo7⟩ := Kd.R_slice HO202.out; subst eo7) | (go_at_call 26; (with_reducible refine (wrap_Lines.calls k _ _ t200 5 1 t203 _ ?side1 ?side2 A4.out).mono ?_); (case side1 => repeat (first | exact (Kd.R_reads' HO202.out).2.2 | (with_reducible refine Kd.C_alloc ?_ _) | (with_reducible refine Kd.C_drewN ?_ _) | (with_reducible refine Kd.C_drew ?_))); (case side2 => exact (Kd.R_reads' HO202.out).2.1); rintro e w8 ⟨v204, rfl, ho0, hb⟩; have n0_ := Aside0.mk (Kd.R_below (by (with_reducible repeat (first | apply Kd.R_alloc | apply Kd.R_drewN | apply Kd.R_drew)); exact HO202.out) hb); have n1_ := Aside0.mk (Kd.R_lower ho0 (below_size (by repeat (first | (with_reducible first | exact HB.out | apply below_alloc | apply pw_below_drewN | apply below_drew1) | exact HB.out)))); have n2_ := Aside0.mk (below_step (by repeat (first | (with_reducible first | exact HB.out | apply below_alloc | apply pw_below_drewN | apply below_drew1) | exact HB.out)) hb); clear HO202; clear HB; have HO202 := n0_; have HO205 := n1_; have HB := n2_; clear n0_ n1_ n2_; (try clear hb); (try clear hb2); (try clear hk); (try clear hi); (try clear ho0); obtain ⟨Ao9, co9, eo9⟩ := Kd.R_slice HO205.out; subst eo9))
  repeat (go_quiet (first | (go_at_call 41; (with_reducible refine (parquetryref06_Split.calls k a0 t200 _ A3.out).mono ?_); rintro e w6 ⟨v201, rfl, ho0, hb⟩; have n0_ := Aside0.mk (Kd.R_lower ho0 (below_size (by repeat (first | (with_reducible first | exact HB.out | apply below_alloc | apply pw_below_drewN | apply below_drew1) | exact HB.out)))); have n1_ := Aside0.mk (below_step (by repeat (first | (with_reducible first | exact HB.out | apply below_alloc | apply pw_below_drewN | apply below_drew1) | exact HB.out)) hb); clear HB; have HO202 := n0_; have HB := n1_; clear n0_ n1_; (try clear hb); (try clear hb2); (try clear hk); (try clear hi); (try clear ho0); obtain ⟨Ao7, co7, eo7⟩ := Kd.R_slice HO202.out; subst eo7) | (go_at_call 26; (with_reducible refine (wrap_Lines.calls k _ _ t200 5 1 t203 _ ?side1 ?side2 A4.out).mono ?_); (case side1 => repeat (first | exact (Kd.R_reads' HO202.out).2.2 | (with_reducible refine Kd.C_alloc ?_ _) | (with_reducible refine Kd.C_drewN ?_ _) | (with_reducible refine Kd.C_drew ?_))); (case side2 => exact (Kd.R_reads' HO202.out).2.1); rintro e w8 ⟨v204, rfl, ho0, hb⟩; have n0_ := Aside0.mk (Kd.R_below (by (with_reducible repeat (first | apply Kd.R_alloc | apply Kd.R_drewN | apply Kd.R_drew)); exact HO202.out) hb); have n1_ := Aside0.mk (Kd.R_lower ho0 (below_size (by repeat (first | (with_reducible first | exact HB.out | apply below_alloc | apply pw_below_drewN | apply below_drew1) | exact HB.out)))); have n2_ := Aside0.mk (below_step (by repeat (first | (with_reducible first | exact HB.out | apply below_alloc | apply pw_below_drewN | apply below_drew1) | exact HB.out)) hb); clear HO202; clear HB; have HO202 := n0_; have HO205 := n1_; have HB := n2_; clear n0_ n1_ n2_; (try clear hb); (try clear hb2); (try clear hk); (try clear hi); (try clear ho0); obtain ⟨Ao9, co9, eo9⟩ := Kd.R_slice HO205.out; subst eo9)); try go_wp2_with (first | (go_at_call 41; (with_reducible refine (parquetryref06_Split.calls k a0 t200 _ A3.out).mono ?_); rintro e w6 ⟨v201, rfl, ho0, hb⟩; have n0_ := Aside0.mk (Kd.R_lower ho0 (below_size (by repeat (first | (with_reducible first | exact HB.out | apply below_alloc | apply pw_below_drewN | apply below_drew1) | exact HB.out)))); have n1_ := Aside0.mk (below_step (by repeat (first | (with_reducible first | exact HB.out | apply below_alloc | apply pw_below_drewN | apply below_drew1) | exact HB.out)) hb); clear HB; have HO202 := n0_; have HB := n1_; clear n0_ n1_; (try clear hb); (try clear hb2); (try clear hk); (try clear hi); (try clear ho0); obtain ⟨Ao7, co7, eo7⟩ := Kd.R_slice HO202.out; subst eo7) | (go_at_call 26; (with_reducible refine (wrap_Lines.calls k _ _ t200 5 1 t203 _ ?side1 ?side2 A4.out).mono ?_); (case side1 => repeat (first | exact (Kd.R_reads' HO202.out).2.2 | (with_reducible refine Kd.C_alloc ?_ _) | (with_reducible refine Kd.C_drewN ?_ _) | (with_reducible refine Kd.C_drew ?_))); (case side2 => exact (Kd.R_reads' HO202.out).2.1); rintro e w8 ⟨v204, rfl, ho0, hb⟩; have n0_ := Aside0.mk (Kd.R_below (by (with_reducible repeat (first | apply Kd.R_alloc | apply Kd.R_drewN | apply Kd.R_drew)); exact HO202.out) hb); have n1_ := Aside0.mk (Kd.R_lower ho0 (below_size (by repeat (first | (with_reducible first | exact HB.out | apply below_alloc | apply pw_below_drewN | apply below_drew1) | exact HB.out)))); have n2_ := Aside0.mk (below_step (by repeat (first | (with_reducible first | exact HB.out | apply below_alloc | apply pw_below_drewN | apply below_drew1) | exact HB.out)) hb); clear HO202; clear HB; have HO202 := n0_; have HO205 := n1_; have HB := n2_; clear n0_ n1_ n2_; (try clear hb); (try clear hb2); (try clear hk); (try clear hi); (try clear ho0); obtain ⟨Ao9, co9, eo9⟩ := Kd.R_slice HO205.out; subst eo9)))
  go_loopg [7] k (fun kq v7 w' => ∃ (x7_1 : Int), v7 = .int .i64 x7_1 ∧ Aside0 (parquetrylaw17_shows.l0 kq a0 l1 t200 t203 x7_1 = some r) ∧ Aside0 (kq ≤ k) ∧ Aside0 (Kd.R k39 39 w' w.heap.size (fun _ => True) (.slice Ao7 t200.length co7) t200) ∧ Aside0 (Kd.R k29 29 w' w.heap.size (fun _ => True) (.slice Ao9 t203.length co9) t203) ∧ Aside0 (Below w.heap.size w w'))
  case atStart => exact ⟨(0), (by first | rfl | (simp; done) | (simp [*]; done)), H', ⟨Nat.le_refl _⟩, ⟨by (with_reducible repeat (first | apply Kd.R_alloc | apply Kd.R_drewN | apply Kd.R_drew)); exact HO202.out⟩, ⟨by (with_reducible repeat (first | apply Kd.R_alloc | apply Kd.R_drewN | apply Kd.R_drew)); exact HO205.out⟩, ⟨by repeat (first | (with_reducible first | exact HB.out | apply below_alloc | apply pw_below_drewN | apply below_drew1) | exact HB.out)⟩⟩
  case round =>
   clear H'
   try clear c1
   try clear p2
   try clear c3
   try clear c5
   try clear c5b0
   try clear c5b1
   try clear c5b2
   obtain ⟨x7_1, rfl, HA, HK1, HO_5, HO_6, HB⟩ := hrel
   cases gk with
   | zero => exact absurd HA.out (by simp [parquetrylaw17_shows.l0])
   | succ k1 =>
    have H := HA.out
    clear HA
    simp only [parquetrylaw17_shows.l0] at H
    by_cases c10 : x7_1 < (t203.length : Int)
    ·
     rw [if_pos c10] at H
     have c10b0 : decide (x7_1 < (t203.length : Int)) = true := decide_eq_true c10
     clear c10
     have HC11 := Aside0.mk H
     clear H
     go_upto_region 8 with (fail)
     repeat (go_quiet (fail); go_upto_region 8 with (fail))
     go_cut [53] (fun v53 wc => ∃ (kq : Nat) (x53_10 : Bool), v53 = .bool x53_10 ∧ Aside0 (parquetrylaw17_shows.j1 kq a0 l1 t200 t203 x7_1 x53_10 = some r) ∧ Aside0 (kq ≤ k1) ∧ Aside0 (Kd.R k39 39 wc w.heap.size (fun _ => True) (.slice Ao7 t200.length co7) t200) ∧ Aside0 (Kd.R k29 29 wc w.heap.size (fun _ => True) (.slice Ao9 t203.length co9) t203) ∧ Aside0 (Below w.heap.size w wc))
     case first =>
      have H := HC11.out
      clear HC11
      by_cases c12 : 0 ≤ x7_1
      ·
       rw [if_pos c12] at H
       have c12b0 : decide (0 ≤ x7_1) = true := decide_eq_true c12
       clear c12
       (first | rw [c12b0] | (simp only [i64_w, i32_w]; rw [c12b0]) | skip)
       by_cases c13 : ((rd_T29 t203 x7_1).f0) < 0
       ·
        rw [if_pos c13] at H
        have c13b0 : decide (((rd_T29 t203 x7_1).f0) < 0) = true := decide_eq_true c13
        clear c13
        have H' := Aside0.mk H
        clear H
        have p206 : 0 ≤ (x7_1 : Int) := of_decide_eq_true (by first | (with_reducible assumption) | assumption)
        have q206 : x7_1 < (t203.length : Int) := of_decide_eq_true (by first | (with_reducible assumption) | assumption)
        obtain ⟨ad206, e206, hx206_0, hx206_1, hx206_2, hx206_3, hx206_4⟩ := at_T29 (Kd.R_reads' HO_6.out).2.2 x7_1 p206 q206
        cases e206
        replace p206 := eq_true p206
        replace q206 := eq_true q206
        go_wp2
        repeat (go_quiet (fail); try go_wp2)
        go_meet
        case rel => exact ⟨_, (true), (by first | rfl | (simp; done) | (simp [*]; done)), H', ⟨by have := HK1.out; first | omega | exact Nat.le_refl _⟩, ⟨by (with_reducible repeat (first | apply Kd.R_alloc | apply Kd.R_drewN | apply Kd.R_drew)); exact HO_5.out⟩, ⟨by (with_reducible repeat (first | apply Kd.R_alloc | apply Kd.R_drewN | apply Kd.R_drew)); exact HO_6.out⟩, ⟨by repeat (first | (with_reducible first | exact HB.out | apply below_alloc | apply pw_below_drewN | apply below_drew1) | exact HB.out)⟩⟩
       ·
        rw [if_neg c13] at H
        have c13b0 : decide (((rd_T29 t203 x7_1).f0) < 0) = false := decide_eq_false c13
        clear c13
        by_cases c14 : ((rd_T29 t203 x7_1).f2) < ((rd_T29 t203 x7_1).f0)
        ·
         rw [if_pos c14] at H
         have c14b0 : decide (((rd_T29 t203 x7_1).f2) < ((rd_T29 t203 x7_1).f0)) = true := decide_eq_true c14
         clear c14
         have H' := Aside0.mk H
         clear H
         have p206 : 0 ≤ (x7_1 : Int) := of_decide_eq_true (by first | (with_reducible assumption) | assumption)
         have q206 : x7_1 < (t203.length : Int) := of_decide_eq_true (by first | (with_reducible assumption) | assumption)
         obtain ⟨ad206, e206, hx206_0, hx206_1, hx206_2, hx206_3, hx206_4⟩ := at_T29 (Kd.R_reads' HO_6.out).2.2 x7_1 p206 q206
         cases e206
         replace p206 := eq_true p206
         replace q206 := eq_true q206
         have p207 : 0 ≤ (x7_1 : Int) := of_decide_eq_true (by first | (with_reducible assumption) | assumption)
         have q207 : x7_1 < (t203.length : Int) := of_decide_eq_true (by first | (with_reducible assumption) | assumption)
         obtain ⟨ad207, e207, hx207_0, hx207_1, hx207_2, hx207_3, hx207_4⟩ := at_T29 (Kd.R_reads' HO_6.out).2.2 x7_1 p207 q207
         obtain rfl : ad206 = ad207 := (by injection e207)
         replace p207 := eq_true p207
         replace q207 := eq_true q207
         have p208 : 0 ≤ (x7_1 : Int) := of_decide_eq_true (by first | (with_reducible assumption) | assumption)
         have q208 : x7_1 < (t203.length : Int) := of_decide_eq_true (by first | (with_reducible assumption) | assumption)
         obtain ⟨ad208, e208, hx208_0, hx208_1, hx208_2, hx208_3, hx208_4⟩ := at_T29 (Kd.R_reads' HO_6.out).2.2 x7_1 p208 q208
         obtain rfl : ad206 = ad208 := (by injection e208)
         replace p208 := eq_true p208
         replace q208 := eq_true q208
         go_wp2
         repeat (go_quiet (fail); try go_wp2)
         go_meet
         case rel => exact ⟨_, (true), (by first | rfl | (simp; done) | (simp [*]; done)), H', ⟨by have := HK1.out; first | omega | exact Nat.le_refl _⟩, ⟨by (with_reducible repeat (first | apply Kd.R_alloc | apply Kd.R_drewN | apply Kd.R_drew)); exact HO_5.out⟩, ⟨by (with_reducible repeat (first | apply Kd.R_alloc | apply Kd.R_drewN | apply Kd.R_drew)); exact HO_6.out⟩, ⟨by repeat (first | (with_reducible first | exact HB.out | apply below_alloc | apply pw_below_drewN | apply below_drew1) | exact HB.out)⟩⟩
        ·
         rw [if_neg c14] at H
         have c14b0 : decide (((rd_T29 t203 x7_1).f2) < ((rd_T29 t203 x7_1).f0)) = false := decide_eq_false c14
         clear c14
         have H' := Aside0.mk H
         clear H
         have p206 : 0 ≤ (x7_1 : Int) := of_decide_eq_true (by first | (with_reducible assumption) | assumption)
         have q206 : x7_1 < (t203.length : Int) := of_decide_eq_true (by first | (with_reducible assumption) | assumption)
         obtain ⟨ad206, e206, hx206_0, hx206_1, hx206_2, hx206_3, hx206_4⟩ := at_T29 (Kd.R_reads' HO_6.out).2.2 x7_1 p206 q206
         cases e206
         replace p206 := eq_true p206
         replace q206 := eq_true q206
         have p207 : 0 ≤ (x7_1 : Int) := of_decide_eq_true (by first | (with_reducible assumption) | assumption)
         have q207 : x7_1 < (t203.length : Int) := of_decide_eq_true (by first | (with_reducible assumption) | assumption)
         obtain ⟨ad207, e207, hx207_0, hx207_1, hx207_2, hx207_3, hx207_4⟩ := at_T29 (Kd.R_reads' HO_6.out).2.2 x7_1 p207 q207
         obtain rfl : ad206 = ad207 := (by injection e207)
         replace p207 := eq_true p207
         replace q207 := eq_true q207
         have p208 : 0 ≤ (x7_1 : Int) := of_decide_eq_true (by first | (with_reducible assumption) | assumption)
         have q208 : x7_1 < (t203.length : Int) := of_decide_eq_true (by first | (with_reducible assumption) | assumption)
         obtain ⟨ad208, e208, hx208_0, hx208_1, hx208_2, hx208_3, hx208_4⟩ := at_T29 (Kd.R_reads' HO_6.out).2.2 x7_1 p208 q208
         obtain rfl : ad206 = ad208 := (by injection e208)
         replace p208 := eq_true p208
         replace q208 := eq_true q208
         have p209 : 0 ≤ (x7_1 : Int) := of_decide_eq_true (by first | (with_reducible assumption) | assumption)
         have q209 : x7_1 < (t203.length : Int) := of_decide_eq_true (by first | (with_reducible assumption) | assumption)
         obtain ⟨ad209, e209, hx209_0, hx209_1, hx209_2, hx209_3, hx209_4⟩ := at_T29 (Kd.R_reads' HO_6.out).2.2 x7_1 p209 q209
         obtain rfl : ad206 = ad209 := (by injection e209)
         replace p209 := eq_true p209
         replace q209 := eq_true q209
         go_wp2
         repeat (go_quiet (fail); try go_wp2)
         go_meet
         case rel => exact ⟨_, (decide (((rd_T29 t203 x7_1).f2) > (t200.length : Int))), (by first | rfl | (simp; done) | (simp [*]; done)), H', ⟨by have := HK1.out; first | omega | exact Nat.le_refl _⟩, ⟨by (with_reducible repeat (first | apply Kd.R_alloc | apply Kd.R_drewN | apply Kd.R_drew)); exact HO_5.out⟩, ⟨by (with_reducible repeat (first | apply Kd.R_alloc | apply Kd.R_drewN | apply Kd.R_drew)); exact HO_6.out⟩, ⟨by repeat (first | (with_reducible first | exact HB.out | apply below_alloc | apply pw_below_drewN | apply below_drew1) | exact HB.out)⟩⟩
      ·
       rw [if_neg c12] at H
       exact absurd H (by simp)
     case rest =>
      clear HC11
      try clear q2
      try clear hx2
      try clear c10
      try clear c10b0
      try clear c12
      try clear c12b0
      try clear c13
      try clear c13b0
      try clear c14
      try clear c14b0
      try clear hx206_0
      try clear hx206_1
      try clear hx206_2
      try clear hx206_3
      try clear hx206_4
      try clear hx207_0
      try clear hx207_1
      try clear hx207_2
      try clear hx207_3
      try clear hx207_4
      try clear hx208_0
      try clear hx208_1
      try clear hx208_2
      try clear hx208_3
      try clear hx208_4
      try clear hx209_0
      try clear hx209_1
      try clear hx209_2
      try clear hx209_3
      try clear hx209_4
      try clear p206
      try clear p207
      try clear p208
      try clear p209
      try clear q206
      try clear q207
      try clear q208
      try clear q209
      obtain ⟨kq, x53_10, rfl, HA, HJ10, HO_5, HO_6, HB⟩ := hcut
      cases kq with
      | zero => exact absurd HA.out (by simp [parquetrylaw17_shows.j1])
      | succ kj10 =>
       have H := HA.out
       clear HA
       simp only [parquetrylaw17_shows.j1] at H
       by_cases c15 : x53_10 = true
       ·
        subst c15
        have H1 : (none) = some r := by rw [if_pos rfl] at H; exact H
        clear H
        have H := H1
        clear H1
        cases H
       ·
        replace c15 := Bool.eq_false_iff.mpr c15
        subst c15
        have H1 : (if 0 ≤ x7_1 then (if x7_1 < (t203.length : Int) then (parquetrylaw17_shows.l1 kj10 a0 l1 t200 t203 x7_1 (⟨#[]⟩ : ByteArray) ((rd_T29 t203 x7_1).f0)) else (none)) else (none)) = some r := by rw [if_neg (show ¬ (false = true) by decide)] at H; exact H
        clear H
        have H := H1
        clear H1
        by_cases c16 : 0 ≤ x7_1
        ·
         rw [if_pos c16] at H
         have c16b0 : decide (0 ≤ x7_1) = true := decide_eq_true c16
         clear c16
         by_cases c17 : x7_1 < (t203.length : Int)
         ·
          rw [if_pos c17] at H
          have c17b0 : decide (x7_1 < (t203.length : Int)) = true := decide_eq_true c17
          clear c17
          have H' := Aside0.mk H
          clear H
          have p210 : 0 ≤ (x7_1 : Int) := of_decide_eq_true (by first | (with_reducible assumption) | assumption)
          have q210 : x7_1 < (t203.length : Int) := of_decide_eq_true (by first | (with_reducible assumption) | assumption)
          obtain ⟨ad210, e210, hx210_0, hx210_1, hx210_2, hx210_3, hx210_4⟩ := at_T29 (Kd.R_reads' HO_6.out).2.2 x7_1 p210 q210
          cases e210
          replace p210 := eq_true p210
          replace q210 := eq_true q210
          go_wp2
          repeat (go_quiet (fail); try go_wp2)
          go_loopg [8, 9] kj10 (fun kq v8 v9 w' => ∃ (x8_3 : ByteArray) (x9_3 : Int), v8 = .string x8_3 ∧ v9 = .int .i64 x9_3 ∧ Aside0 (parquetrylaw17_shows.l1 kq a0 l1 t200 t203 x7_1 x8_3 x9_3 = some r) ∧ Aside0 (kq ≤ kj10) ∧ Aside0 (Kd.R k39 39 w' w.heap.size (fun _ => True) (.slice Ao7 t200.length co7) t200) ∧ Aside0 (Kd.R k29 29 w' w.heap.size (fun _ => True) (.slice (some ad210) t203.length co9) t203) ∧ Aside0 (Below w.heap.size w w'))
          case atStart => exact ⟨((⟨#[]⟩ : ByteArray)), ((rd_T29 t203 x7_1).f0), (by first | rfl | (simp; done) | (simp [*]; done)), (by first | rfl | (simp; done) | (simp [*]; done)), H', ⟨Nat.le_refl _⟩, ⟨by (with_reducible repeat (first | apply Kd.R_alloc | apply Kd.R_drewN | apply Kd.R_drew)); exact HO_5.out⟩, ⟨by (with_reducible repeat (first | apply Kd.R_alloc | apply Kd.R_drewN | apply Kd.R_drew)); exact HO_6.out⟩, ⟨by repeat (first | (with_reducible first | exact HB.out | apply below_alloc | apply pw_below_drewN | apply below_drew1) | exact HB.out)⟩⟩
          case round =>
           clear H'
           try clear c15
           try clear c16
           try clear c16b0
           try clear c17
           try clear c17b0
           try clear hx210_0
           try clear hx210_1
           try clear hx210_2
           try clear hx210_3
           try clear hx210_4
           try clear p210
           try clear q210
           obtain ⟨x8_3, x9_3, rfl, rfl, HA, HK3, HO_5, HO_6, HB⟩ := hrel
           cases gk with
           | zero => exact absurd HA.out (by simp [parquetrylaw17_shows.l1])
           | succ k3 =>
            have H := HA.out
            clear HA
            simp only [parquetrylaw17_shows.l1] at H
            by_cases c18 : 0 ≤ x7_1
            ·
             rw [if_pos c18] at H
             have c18b0 : decide (0 ≤ x7_1) = true := decide_eq_true c18
             clear c18
             by_cases c19 : x7_1 < (t203.length : Int)
             ·
              rw [if_pos c19] at H
              have c19b0 : decide (x7_1 < (t203.length : Int)) = true := decide_eq_true c19
              clear c19
              by_cases c20 : x9_3 < ((rd_T29 t203 x7_1).f2)
              ·
               rw [if_pos c20] at H
               have c20b0 : decide (x9_3 < ((rd_T29 t203 x7_1).f2)) = true := decide_eq_true c20
               clear c20
               by_cases c21 : 0 ≤ x9_3
               ·
                rw [if_pos c21] at H
                have c21b0 : decide (0 ≤ x9_3) = true := decide_eq_true c21
                clear c21
                by_cases c22 : x9_3 < (t200.length : Int)
                ·
                 rw [if_pos c22] at H
                 have c22b0 : decide (x9_3 < (t200.length : Int)) = true := decide_eq_true c22
                 clear c22
                 by_cases c23 : 0 ≤ ((rd_T39 t200 x9_3).f0)
                 ·
                  rw [if_pos c23] at H
                  have c23b0 := eq_true c23
                  have c23b1 : decide (0 ≤ ((rd_T39 t200 x9_3).f0)) = true := decide_eq_true c23
                  clear c23
                  by_cases c24 : ((rd_T39 t200 x9_3).f0) ≤ (wrap64 (((rd_T39 t200 x9_3).f0) + ((rd_T39 t200 x9_3).f1)))
                  ·
                   rw [if_pos c24] at H
                   have c24b0 := eq_true c24
                   have c24b1 : decide (((rd_T39 t200 x9_3).f0) ≤ (wrap64 (((rd_T39 t200 x9_3).f0) + ((rd_T39 t200 x9_3).f1)))) = true := decide_eq_true c24
                   by_cases c25 : (wrap64 (((rd_T39 t200 x9_3).f0) + ((rd_T39 t200 x9_3).f1))) ≤ (a0.size : Int)
                   ·
                    rw [if_pos c25] at H
                    have c25b0 := eq_true c25
                    have c25b1 : decide ((wrap64 (((rd_T39 t200 x9_3).f0) + ((rd_T39 t200 x9_3).f1))) ≤ (a0.size : Int)) = true := decide_eq_true c25
                    by_cases c26 : x8_3.size + (a0.extract (((rd_T39 t200 x9_3).f0) : Int).toNat ((wrap64 (((rd_T39 t200 x9_3).f0) + ((rd_T39 t200 x9_3).f1))) : Int).toNat).size ≤ 9223372036854775807
                    ·
                     rw [if_pos c26] at H
                     have c26b0 := eq_true c26
                     have c26b1 : decide (x8_3.size + (a0.extract (((rd_T39 t200 x9_3).f0) : Int).toNat ((wrap64 (((rd_T39 t200 x9_3).f0) + ((rd_T39 t200 x9_3).f1))) : Int).toNat).size ≤ 9223372036854775807) = true := decide_eq_true c26
                     try have c26b2 : (9223372036854775807 < x8_3.size + (a0.extract (((rd_T39 t200 x9_3).f0) : Int).toNat ((wrap64 (((rd_T39 t200 x9_3).f0) + ((rd_T39 t200 x9_3).f1))) : Int).toNat).size) = False := eq_false (Nat.not_lt.2 c26)
                     have H' := Aside0.mk H
                     clear H
                     have p211 : 0 ≤ (x7_1 : Int) := of_decide_eq_true (by first | (with_reducible assumption) | assumption)
                     have q211 : x7_1 < (t203.length : Int) := of_decide_eq_true (by first | (with_reducible assumption) | assumption)
                     obtain ⟨ad211, e211, hx211_0, hx211_1, hx211_2, hx211_3, hx211_4⟩ := at_T29 (Kd.R_reads' HO_6.out).2.2 x7_1 p211 q211
                     obtain rfl : ad210 = ad211 := (by injection e211)
                     replace p211 := eq_true p211
                     replace q211 := eq_true q211
                     have p212 : 0 ≤ (x9_3 : Int) := of_decide_eq_true (by first | (with_reducible assumption) | assumption)
                     have q212 : x9_3 < (t200.length : Int) := of_decide_eq_true (by first | (with_reducible assumption) | assumption)
                     obtain ⟨ad212, e212, hx212_0, hx212_1, hx212_2, hx212_3, hx212_4, hx212_5⟩ := at_T39 (Kd.R_reads' HO_5.out).2.2 x9_3 p212 q212
                     cases e212
                     replace p212 := eq_true p212
                     replace q212 := eq_true q212
                     have p213 : 0 ≤ (x9_3 : Int) := of_decide_eq_true (by first | (with_reducible assumption) | assumption)
                     have q213 : x9_3 < (t200.length : Int) := of_decide_eq_true (by first | (with_reducible assumption) | assumption)
                     obtain ⟨ad213, e213, hx213_0, hx213_1, hx213_2, hx213_3, hx213_4, hx213_5⟩ := at_T39 (Kd.R_reads' HO_5.out).2.2 x9_3 p213 q213
                     obtain rfl : ad212 = ad213 := (by injection e213)
                     replace p213 := eq_true p213
                     replace q213 := eq_true q213
                     have p214 : 0 ≤ (x9_3 : Int) := of_decide_eq_true (by first | (with_reducible assumption) | assumption)
                     have q214 : x9_3 < (t200.length : Int) := of_decide_eq_true (by first | (with_reducible assumption) | assumption)
                     obtain ⟨ad214, e214, hx214_0, hx214_1, hx214_2, hx214_3, hx214_4, hx214_5⟩ := at_T39 (Kd.R_reads' HO_5.out).2.2 x9_3 p214 q214
                     obtain rfl : ad212 = ad214 := (by injection e214)
                     replace p214 := eq_true p214
                     replace q214 := eq_true q214
                     go_wp2
                     repeat (go_quiet (fail); try go_wp2)
                     go_roundg k3
                     case measure => have := HK1.out; have := HJ10.out; have := HK3.out; omega
                     case rel => exact ⟨(x8_3 ++ (a0.extract (((rd_T39 t200 x9_3).f0) : Int).toNat ((wrap64 (((rd_T39 t200 x9_3).f0) + ((rd_T39 t200 x9_3).f1))) : Int).toNat)), (wrap64 (x9_3 + 1)), (by first | rfl | (simp; done) | (simp [*]; done)), (by first | rfl | (simp; done) | (simp [*]; done)), H', ⟨by have := HK1.out; have := HJ10.out; have := HK3.out; omega⟩, ⟨by (with_reducible repeat (first | apply Kd.R_alloc | apply Kd.R_drewN | apply Kd.R_drew)); exact HO_5.out⟩, ⟨by (with_reducible repeat (first | apply Kd.R_alloc | apply Kd.R_drewN | apply Kd.R_drew)); exact HO_6.out⟩, ⟨by repeat (first | (with_reducible first | exact HB.out | apply below_alloc | apply pw_below_drewN | apply below_drew1) | exact HB.out)⟩⟩
                    ·
                     rw [if_neg c26] at H
                     exact absurd H (by simp)
                   ·
                    rw [if_neg c25] at H
                    exact absurd H (by simp)
                  ·
                   rw [if_neg c24] at H
                   exact absurd H (by simp)
                 ·
                  rw [if_neg c23] at H
                  exact absurd H (by simp)
                ·
                 rw [if_neg c22] at H
                 exact absurd H (by simp)
               ·
                rw [if_neg c21] at H
                exact absurd H (by simp)
              ·
               rw [if_neg c20] at H
               have c20b0 : decide (x9_3 < ((rd_T29 t203 x7_1).f2)) = false := decide_eq_false c20
               clear c20
               by_cases c27 : x7_1 < (l1.length : Int)
               ·
                rw [if_pos c27] at H
                have c27b0 : decide (x7_1 < (l1.length : Int)) = true := decide_eq_true c27
                clear c27
                by_cases c28 : x8_3.toList = (rdOf ByteArray.empty l1 x7_1).toList
                ·
                 rw [if_pos c28] at H
                 have c28b0 : (x8_3.toList == (rdOf ByteArray.empty l1 x7_1).toList) = true := beq_iff_eq.mpr c28
                 have c28b1 : (x8_3.toList != (rdOf ByteArray.empty l1 x7_1).toList) = false := bne_eq_false_iff_eq.mpr c28
                 clear c28
                 by_cases c29 : ((((rd_T29 t203 x7_1).f3) == 1) != ((wrap64 (x7_1 + 1)) == (t203.length : Int))) = true
                 ·
                  rw [if_pos c29] at H
                  have c29b0 : ((((rd_T29 t203 x7_1).f3) == 1) != ((wrap64 (x7_1 + 1)) == (t203.length : Int))) = true := c29
                  (try (have c29b1 : decide ((((rd_T29 t203 x7_1).f3) == 1) = ((wrap64 (x7_1 + 1)) == (t203.length : Int))) = false := by simpa using c29))
                  (try (have c29b2 : ((((rd_T29 t203 x7_1).f3) == 1) == ((wrap64 (x7_1 + 1)) == (t203.length : Int))) = false := by simpa using c29))
                  (try (have c29b3 : ¬ ((((rd_T29 t203 x7_1).f3) == 1) = ((wrap64 (x7_1 + 1)) == (t203.length : Int))) := by simpa using c29))
                  clear c29
                  cases H
                 ·
                  rw [if_neg c29] at H
                  have c29b0 : ((((rd_T29 t203 x7_1).f3) == 1) != ((wrap64 (x7_1 + 1)) == (t203.length : Int))) = false := by simpa using c29
                  (try (have c29b1 : decide ((((rd_T29 t203 x7_1).f3) == 1) = ((wrap64 (x7_1 + 1)) == (t203.length : Int))) = true := by simpa using c29))
                  (try (have c29b2 : ((((rd_T29 t203 x7_1).f3) == 1) == ((wrap64 (x7_1 + 1)) == (t203.length : Int))) = true := by simpa using c29))
                  clear c29
                  by_cases c30 : ((rd_T29 t203 x7_1).f4) = 0
                  ·
                   rw [if_pos c30] at H
                   have c30b0 : (((rd_T29 t203 x7_1).f4) == 0) = true := beq_iff_eq.mpr c30
                   have c30b1 : (((rd_T29 t203 x7_1).f4) != 0) = false := bne_eq_false_iff_eq.mpr c30
                   clear c30
                   have H' := Aside0.mk H
                   clear H
                   have p211 : 0 ≤ (x7_1 : Int) := of_decide_eq_true (by first | (with_reducible assumption) | assumption)
                   have q211 : x7_1 < (t203.length : Int) := of_decide_eq_true (by first | (with_reducible assumption) | assumption)
                   obtain ⟨ad211, e211, hx211_0, hx211_1, hx211_2, hx211_3, hx211_4⟩ := at_T29 (Kd.R_reads' HO_6.out).2.2 x7_1 p211 q211
                   obtain rfl : ad210 = ad211 := (by injection e211)
                   replace p211 := eq_true p211
                   replace q211 := eq_true q211
                   have p215 : 0 ≤ (x7_1 : Int) := of_decide_eq_true (by first | (with_reducible assumption) | assumption)
                   have q215 : x7_1 < (l1.length : Int) := of_decide_eq_true (by first | (with_reducible assumption) | assumption)
                   obtain ⟨ad215, e215, hx215_0⟩ := Kd.at_string HR1.out x7_1 p215 q215
                   cases e215
                   replace hx215_0 := (HB.out.cell (World.block_lt_of_cell? w _ hx215_0)).trans hx215_0
                   replace p215 := eq_true p215
                   replace q215 := eq_true q215
                   have p216 : 0 ≤ (x7_1 : Int) := of_decide_eq_true (by first | (with_reducible assumption) | assumption)
                   have q216 : x7_1 < (t203.length : Int) := of_decide_eq_true (by first | (with_reducible assumption) | assumption)
                   obtain ⟨ad216, e216, hx216_0, hx216_1, hx216_2, hx216_3, hx216_4⟩ := at_T29 (Kd.R_reads' HO_6.out).2.2 x7_1 p216 q216
                   obtain rfl : ad210 = ad216 := (by injection e216)
                   replace p216 := eq_true p216
                   replace q216 := eq_true q216
                   have p217 : 0 ≤ (x7_1 : Int) := of_decide_eq_true (by first | (with_reducible assumption) | assumption)
                   have q217 : x7_1 < (t203.length : Int) := of_decide_eq_true (by first | (with_reducible assumption) | assumption)
                   obtain ⟨ad217, e217, hx217_0, hx217_1, hx217_2, hx217_3, hx217_4⟩ := at_T29 (Kd.R_reads' HO_6.out).2.2 x7_1 p217 q217
                   obtain rfl : ad210 = ad217 := (by injection e217)
                   replace p217 := eq_true p217
                   replace q217 := eq_true q217
                   go_wp2
                   repeat (go_quiet (fail); try go_wp2)
                   go_roundg k3
                   case measure => have := HK1.out; have := HJ10.out; have := HK3.out; omega
                   case rel => exact ⟨(wrap64 (x7_1 + 1)), (by first | rfl | (simp; done) | (simp [*]; done)), H', ⟨by have := HK1.out; have := HJ10.out; have := HK3.out; omega⟩, ⟨by (with_reducible repeat (first | apply Kd.R_alloc | apply Kd.R_drewN | apply Kd.R_drew)); exact HO_5.out⟩, ⟨by (with_reducible repeat (first | apply Kd.R_alloc | apply Kd.R_drewN | apply Kd.R_drew)); exact HO_6.out⟩, ⟨by repeat (first | (with_reducible first | exact HB.out | apply below_alloc | apply pw_below_drewN | apply below_drew1) | exact HB.out)⟩⟩
                  ·
                   rw [if_neg c30] at H
                   have c30b0 : (((rd_T29 t203 x7_1).f4) == 0) = false := beq_eq_false_iff_ne.mpr c30
                   have c30b1 : (((rd_T29 t203 x7_1).f4) != 0) = true := bne_iff_ne.mpr c30
                   cases H
                ·
                 rw [if_neg c28] at H
                 have c28b0 : (x8_3.toList == (rdOf ByteArray.empty l1 x7_1).toList) = false := beq_eq_false_iff_ne.mpr c28
                 have c28b1 : (x8_3.toList != (rdOf ByteArray.empty l1 x7_1).toList) = true := bne_iff_ne.mpr c28
                 cases H
               ·
                rw [if_neg c27] at H
                exact absurd H (by simp)
             ·
              rw [if_neg c19] at H
              exact absurd H (by simp)
            ·
             rw [if_neg c18] at H
             exact absurd H (by simp)
         ·
          rw [if_neg c17] at H
          exact absurd H (by simp)
        ·
         rw [if_neg c16] at H
         exact absurd H (by simp)
    ·
     rw [if_neg c10] at H
     have c10b0 : decide (x7_1 < (t203.length : Int)) = false := decide_eq_false c10
     clear c10
     obtain rfl := Option.some.inj H
     go_wp2
     repeat (go_quiet (fail); try go_wp2)
     go_ret
     exact ⟨by first | rfl | (simp [errW_none, errW_some] <;> rfl) | (simp [*, errW_none, errW_some] <;> rfl), by repeat (first | (with_reducible first | exact HB.out | apply below_alloc | apply pw_below_drewN | apply below_drew1) | exact HB.out)⟩
 ·
  rw [if_neg c5] at H
  have c5b0 : ((t203.length : Int) == (l1.length : Int)) = false := beq_eq_false_iff_ne.mpr c5
  have c5b1 : ((t203.length : Int) != (l1.length : Int)) = true := bne_iff_ne.mpr c5
  have c5b2 : (t203.length == l1.length) = false := by first | simpa using c5 | (simp at c5 ⊢; omega)
  cases H


/-! ### parquetrylaw17_awake: function 17: by hand -/
def parquetrylaw17_awake.f (k : Nat)  : Option (Bool) := (parquetrylaw17_shows.f k (⟨#[97, 98, 32, 99, 100]⟩ : ByteArray) (([(⟨#[97, 98, 32, 99, 100]⟩ : ByteArray)] : List ByteArray))).bind fun t221 => (if t221 = true then ((parquetrylaw17_shows.f k (⟨#[97, 98, 32, 99, 100, 101, 32, 102]⟩ : ByteArray) (([(⟨#[97, 98]⟩ : ByteArray), (⟨#[99, 100, 101, 32, 102]⟩ : ByteArray)] : List ByteArray))).bind fun t225 => (if t225 = true then ((parquetrylaw17_shows.f k (⟨#[97, 98, 99, 100, 101, 102, 103, 32, 104]⟩ : ByteArray) (([(⟨#[97, 98, 99, 100, 101]⟩ : ByteArray), (⟨#[102, 103, 32, 104]⟩ : ByteArray)] : List ByteArray))).bind fun t229 => (if t229 = true then ((parquetrylaw17_shows.f k (⟨#[97, 98, 99, 100, 101, 32, 32, 32, 102]⟩ : ByteArray) (([(⟨#[97, 98, 99, 100, 101]⟩ : ByteArray), (⟨#[102]⟩ : ByteArray)] : List ByteArray))).bind fun t233 => (if t233 = true then ((parquetrylaw17_shows.f k (⟨#[97, 98, 99, 100, 101, 32, 32, 32]⟩ : ByteArray) (([(⟨#[97, 98, 99, 100, 101]⟩ : ByteArray)] : List ByteArray))).bind fun t237 => (if t237 = true then ((parquetrylaw17_shows.f k (⟨#[32, 32, 97, 98, 99, 100]⟩ : ByteArray) (([(⟨#[32, 32, 97, 98, 99]⟩ : ByteArray), (⟨#[100]⟩ : ByteArray)] : List ByteArray))).bind fun t241 => (if t241 = true then ((parquetrylaw17_shows.f k (⟨#[]⟩ : ByteArray) (([(⟨#[]⟩ : ByteArray)] : List ByteArray))).bind fun t245 => (if t245 = true then ((parquetrylaw17_shows.f k (⟨#[10]⟩ : ByteArray) (([(⟨#[]⟩ : ByteArray)] : List ByteArray))).bind fun t249 => (some t249)) else (none))) else (none))) else (none))) else (none))) else (none))) else (none))) else (none))
theorem parquetrylaw17_awake.mono : ∀ k, LeO (parquetrylaw17_awake.f k ) (parquetrylaw17_awake.f (k + 1) ) := by
 intro  k
 unfold parquetrylaw17_awake.f
 repeat' first
   | (with_reducible exact parquetrylaw17_shows.mono _ _ _)
   | (with_reducible exact LeO.refl _)
   | (with_reducible exact LeO.none _)
   | (with_reducible refine LeO.ite ?_ ?_)
   | (with_reducible refine LeO.bind ?_ (fun _ => ?_))
   | exact parquetrylaw17_shows.mono _ _ _
   | exact LeO.none _
   | refine LeO.ite ?_ ?_
   | refine LeO.bind ?_ (fun _ => ?_)
set_option maxHeartbeats 8000000 in
set_option maxRecDepth 100000 in
theorem parquetrylaw17_awake.calls (k : Nat)  (r : Bool) (w : World) (h : parquetrylaw17_awake.f k  = some r) :
  Calls Try.prog 17 #[] w fun e w' => e = .returned (.bool r) ∧ Below w.heap.size w w' := by
 have HB := Aside0.mk (Below.refl w.heap.size w)
 have H : ((parquetrylaw17_shows.f k (⟨#[97, 98, 32, 99, 100]⟩ : ByteArray) (([(⟨#[97, 98, 32, 99, 100]⟩ : ByteArray)] : List ByteArray))).bind fun t221 => (if t221 = true then ((parquetrylaw17_shows.f k (⟨#[97, 98, 32, 99, 100, 101, 32, 102]⟩ : ByteArray) (([(⟨#[97, 98]⟩ : ByteArray), (⟨#[99, 100, 101, 32, 102]⟩ : ByteArray)] : List ByteArray))).bind fun t225 => (if t225 = true then ((parquetrylaw17_shows.f k (⟨#[97, 98, 99, 100, 101, 102, 103, 32, 104]⟩ : ByteArray) (([(⟨#[97, 98, 99, 100, 101]⟩ : ByteArray), (⟨#[102, 103, 32, 104]⟩ : ByteArray)] : List ByteArray))).bind fun t229 => (if t229 = true then ((parquetrylaw17_shows.f k (⟨#[97, 98, 99, 100, 101, 32, 32, 32, 102]⟩ : ByteArray) (([(⟨#[97, 98, 99, 100, 101]⟩ : ByteArray), (⟨#[102]⟩ : ByteArray)] : List ByteArray))).bind fun t233 => (if t233 = true then ((parquetrylaw17_shows.f k (⟨#[97, 98, 99, 100, 101, 32, 32, 32]⟩ : ByteArray) (([(⟨#[97, 98, 99, 100, 101]⟩ : ByteArray)] : List ByteArray))).bind fun t237 => (if t237 = true then ((parquetrylaw17_shows.f k (⟨#[32, 32, 97, 98, 99, 100]⟩ : ByteArray) (([(⟨#[32, 32, 97, 98, 99]⟩ : ByteArray), (⟨#[100]⟩ : ByteArray)] : List ByteArray))).bind fun t241 => (if t241 = true then ((parquetrylaw17_shows.f k (⟨#[]⟩ : ByteArray) (([(⟨#[]⟩ : ByteArray)] : List ByteArray))).bind fun t245 => (if t245 = true then ((parquetrylaw17_shows.f k (⟨#[10]⟩ : ByteArray) (([(⟨#[]⟩ : ByteArray)] : List ByteArray))).bind fun t249 => (some t249)) else (none))) else (none))) else (none))) else (none))) else (none))) else (none))) else (none))) = some r := h
 clear h
 obtain ⟨y218, hy218⟩ : ∃ y_ : List ByteArray, y_ = (([(⟨#[97, 98, 32, 99, 100]⟩ : ByteArray)] : List ByteArray)) := ⟨_, rfl⟩
 replace H : ((parquetrylaw17_shows.f k (⟨#[97, 98, 32, 99, 100]⟩ : ByteArray) y218).bind fun t221 => (if t221 = true then ((parquetrylaw17_shows.f k (⟨#[97, 98, 32, 99, 100, 101, 32, 102]⟩ : ByteArray) (([(⟨#[97, 98]⟩ : ByteArray), (⟨#[99, 100, 101, 32, 102]⟩ : ByteArray)] : List ByteArray))).bind fun t225 => (if t225 = true then ((parquetrylaw17_shows.f k (⟨#[97, 98, 99, 100, 101, 102, 103, 32, 104]⟩ : ByteArray) (([(⟨#[97, 98, 99, 100, 101]⟩ : ByteArray), (⟨#[102, 103, 32, 104]⟩ : ByteArray)] : List ByteArray))).bind fun t229 => (if t229 = true then ((parquetrylaw17_shows.f k (⟨#[97, 98, 99, 100, 101, 32, 32, 32, 102]⟩ : ByteArray) (([(⟨#[97, 98, 99, 100, 101]⟩ : ByteArray), (⟨#[102]⟩ : ByteArray)] : List ByteArray))).bind fun t233 => (if t233 = true then ((parquetrylaw17_shows.f k (⟨#[97, 98, 99, 100, 101, 32, 32, 32]⟩ : ByteArray) (([(⟨#[97, 98, 99, 100, 101]⟩ : ByteArray)] : List ByteArray))).bind fun t237 => (if t237 = true then ((parquetrylaw17_shows.f k (⟨#[32, 32, 97, 98, 99, 100]⟩ : ByteArray) (([(⟨#[32, 32, 97, 98, 99]⟩ : ByteArray), (⟨#[100]⟩ : ByteArray)] : List ByteArray))).bind fun t241 => (if t241 = true then ((parquetrylaw17_shows.f k (⟨#[]⟩ : ByteArray) (([(⟨#[]⟩ : ByteArray)] : List ByteArray))).bind fun t245 => (if t245 = true then ((parquetrylaw17_shows.f k (⟨#[10]⟩ : ByteArray) (([(⟨#[]⟩ : ByteArray)] : List ByteArray))).bind fun t249 => (some t249)) else (none))) else (none))) else (none))) else (none))) else (none))) else (none))) else (none))) = some r := by first | (rw [hy218]; with_reducible exact H) | (have H2_ := (Option.bind_some _ _).symm.trans H; rw [hy218]; with_reducible exact H2_) | (have H2_ := (Option.bind_some _ _).symm.trans H; with_reducible exact H2_) | with_reducible exact H | (rw [hy218]; exact H) | exact H
 have Ny218 := Aside0.mk hy218
 clear hy218
 replace H := Option.bind_eq_some_iff.mp H
 obtain ⟨t221, A10, H⟩ := H
 try dsimp only at H
 have A1 := Aside0.mk A10
 clear A10
 by_cases c2 : t221 = true
 ·
  subst c2
  rw [if_pos rfl] at H
  obtain ⟨y222, hy222⟩ : ∃ y_ : List ByteArray, y_ = (([(⟨#[97, 98]⟩ : ByteArray), (⟨#[99, 100, 101, 32, 102]⟩ : ByteArray)] : List ByteArray)) := ⟨_, rfl⟩
  replace H : ((parquetrylaw17_shows.f k (⟨#[97, 98, 32, 99, 100, 101, 32, 102]⟩ : ByteArray) y222).bind fun t225 => (if t225 = true then ((parquetrylaw17_shows.f k (⟨#[97, 98, 99, 100, 101, 102, 103, 32, 104]⟩ : ByteArray) (([(⟨#[97, 98, 99, 100, 101]⟩ : ByteArray), (⟨#[102, 103, 32, 104]⟩ : ByteArray)] : List ByteArray))).bind fun t229 => (if t229 = true then ((parquetrylaw17_shows.f k (⟨#[97, 98, 99, 100, 101, 32, 32, 32, 102]⟩ : ByteArray) (([(⟨#[97, 98, 99, 100, 101]⟩ : ByteArray), (⟨#[102]⟩ : ByteArray)] : List ByteArray))).bind fun t233 => (if t233 = true then ((parquetrylaw17_shows.f k (⟨#[97, 98, 99, 100, 101, 32, 32, 32]⟩ : ByteArray) (([(⟨#[97, 98, 99, 100, 101]⟩ : ByteArray)] : List ByteArray))).bind fun t237 => (if t237 = true then ((parquetrylaw17_shows.f k (⟨#[32, 32, 97, 98, 99, 100]⟩ : ByteArray) (([(⟨#[32, 32, 97, 98, 99]⟩ : ByteArray), (⟨#[100]⟩ : ByteArray)] : List ByteArray))).bind fun t241 => (if t241 = true then ((parquetrylaw17_shows.f k (⟨#[]⟩ : ByteArray) (([(⟨#[]⟩ : ByteArray)] : List ByteArray))).bind fun t245 => (if t245 = true then ((parquetrylaw17_shows.f k (⟨#[10]⟩ : ByteArray) (([(⟨#[]⟩ : ByteArray)] : List ByteArray))).bind fun t249 => (some t249)) else (none))) else (none))) else (none))) else (none))) else (none))) else (none))) = some r := by first | (rw [hy222]; with_reducible exact H) | (have H2_ := (Option.bind_some _ _).symm.trans H; rw [hy222]; with_reducible exact H2_) | (have H2_ := (Option.bind_some _ _).symm.trans H; with_reducible exact H2_) | with_reducible exact H | (rw [hy222]; exact H) | exact H
  have Ny222 := Aside0.mk hy222
  clear hy222
  replace H := Option.bind_eq_some_iff.mp H
  obtain ⟨t225, A30, H⟩ := H
  try dsimp only at H
  have A3 := Aside0.mk A30
  clear A30
  by_cases c4 : t225 = true
  ·
   subst c4
   rw [if_pos rfl] at H
   obtain ⟨y226, hy226⟩ : ∃ y_ : List ByteArray, y_ = (([(⟨#[97, 98, 99, 100, 101]⟩ : ByteArray), (⟨#[102, 103, 32, 104]⟩ : ByteArray)] : List ByteArray)) := ⟨_, rfl⟩
   replace H : ((parquetrylaw17_shows.f k (⟨#[97, 98, 99, 100, 101, 102, 103, 32, 104]⟩ : ByteArray) y226).bind fun t229 => (if t229 = true then ((parquetrylaw17_shows.f k (⟨#[97, 98, 99, 100, 101, 32, 32, 32, 102]⟩ : ByteArray) (([(⟨#[97, 98, 99, 100, 101]⟩ : ByteArray), (⟨#[102]⟩ : ByteArray)] : List ByteArray))).bind fun t233 => (if t233 = true then ((parquetrylaw17_shows.f k (⟨#[97, 98, 99, 100, 101, 32, 32, 32]⟩ : ByteArray) (([(⟨#[97, 98, 99, 100, 101]⟩ : ByteArray)] : List ByteArray))).bind fun t237 => (if t237 = true then ((parquetrylaw17_shows.f k (⟨#[32, 32, 97, 98, 99, 100]⟩ : ByteArray) (([(⟨#[32, 32, 97, 98, 99]⟩ : ByteArray), (⟨#[100]⟩ : ByteArray)] : List ByteArray))).bind fun t241 => (if t241 = true then ((parquetrylaw17_shows.f k (⟨#[]⟩ : ByteArray) (([(⟨#[]⟩ : ByteArray)] : List ByteArray))).bind fun t245 => (if t245 = true then ((parquetrylaw17_shows.f k (⟨#[10]⟩ : ByteArray) (([(⟨#[]⟩ : ByteArray)] : List ByteArray))).bind fun t249 => (some t249)) else (none))) else (none))) else (none))) else (none))) else (none))) = some r := by first | (rw [hy226]; with_reducible exact H) | (have H2_ := (Option.bind_some _ _).symm.trans H; rw [hy226]; with_reducible exact H2_) | (have H2_ := (Option.bind_some _ _).symm.trans H; with_reducible exact H2_) | with_reducible exact H | (rw [hy226]; exact H) | exact H
   have Ny226 := Aside0.mk hy226
   clear hy226
   replace H := Option.bind_eq_some_iff.mp H
   obtain ⟨t229, A50, H⟩ := H
   try dsimp only at H
   have A5 := Aside0.mk A50
   clear A50
   by_cases c6 : t229 = true
   ·
    subst c6
    rw [if_pos rfl] at H
    obtain ⟨y230, hy230⟩ : ∃ y_ : List ByteArray, y_ = (([(⟨#[97, 98, 99, 100, 101]⟩ : ByteArray), (⟨#[102]⟩ : ByteArray)] : List ByteArray)) := ⟨_, rfl⟩
    replace H : ((parquetrylaw17_shows.f k (⟨#[97, 98, 99, 100, 101, 32, 32, 32, 102]⟩ : ByteArray) y230).bind fun t233 => (if t233 = true then ((parquetrylaw17_shows.f k (⟨#[97, 98, 99, 100, 101, 32, 32, 32]⟩ : ByteArray) (([(⟨#[97, 98, 99, 100, 101]⟩ : ByteArray)] : List ByteArray))).bind fun t237 => (if t237 = true then ((parquetrylaw17_shows.f k (⟨#[32, 32, 97, 98, 99, 100]⟩ : ByteArray) (([(⟨#[32, 32, 97, 98, 99]⟩ : ByteArray), (⟨#[100]⟩ : ByteArray)] : List ByteArray))).bind fun t241 => (if t241 = true then ((parquetrylaw17_shows.f k (⟨#[]⟩ : ByteArray) (([(⟨#[]⟩ : ByteArray)] : List ByteArray))).bind fun t245 => (if t245 = true then ((parquetrylaw17_shows.f k (⟨#[10]⟩ : ByteArray) (([(⟨#[]⟩ : ByteArray)] : List ByteArray))).bind fun t249 => (some t249)) else (none))) else (none))) else (none))) else (none))) = some r := by first | (rw [hy230]; with_reducible exact H) | (have H2_ := (Option.bind_some _ _).symm.trans H; rw [hy230]; with_reducible exact H2_) | (have H2_ := (Option.bind_some _ _).symm.trans H; with_reducible exact H2_) | with_reducible exact H | (rw [hy230]; exact H) | exact H
    have Ny230 := Aside0.mk hy230
    clear hy230
    replace H := Option.bind_eq_some_iff.mp H
    obtain ⟨t233, A70, H⟩ := H
    try dsimp only at H
    have A7 := Aside0.mk A70
    clear A70
    by_cases c8 : t233 = true
    ·
     subst c8
     rw [if_pos rfl] at H
     obtain ⟨y234, hy234⟩ : ∃ y_ : List ByteArray, y_ = (([(⟨#[97, 98, 99, 100, 101]⟩ : ByteArray)] : List ByteArray)) := ⟨_, rfl⟩
     replace H : ((parquetrylaw17_shows.f k (⟨#[97, 98, 99, 100, 101, 32, 32, 32]⟩ : ByteArray) y234).bind fun t237 => (if t237 = true then ((parquetrylaw17_shows.f k (⟨#[32, 32, 97, 98, 99, 100]⟩ : ByteArray) (([(⟨#[32, 32, 97, 98, 99]⟩ : ByteArray), (⟨#[100]⟩ : ByteArray)] : List ByteArray))).bind fun t241 => (if t241 = true then ((parquetrylaw17_shows.f k (⟨#[]⟩ : ByteArray) (([(⟨#[]⟩ : ByteArray)] : List ByteArray))).bind fun t245 => (if t245 = true then ((parquetrylaw17_shows.f k (⟨#[10]⟩ : ByteArray) (([(⟨#[]⟩ : ByteArray)] : List ByteArray))).bind fun t249 => (some t249)) else (none))) else (none))) else (none))) = some r := by first | (rw [hy234]; with_reducible exact H) | (have H2_ := (Option.bind_some _ _).symm.trans H; rw [hy234]; with_reducible exact H2_) | (have H2_ := (Option.bind_some _ _).symm.trans H; with_reducible exact H2_) | with_reducible exact H | (rw [hy234]; exact H) | exact H
     have Ny234 := Aside0.mk hy234
     clear hy234
     replace H := Option.bind_eq_some_iff.mp H
     obtain ⟨t237, A90, H⟩ := H
     try dsimp only at H
     have A9 := Aside0.mk A90
     clear A90
     by_cases c10 : t237 = true
     ·
      subst c10
      rw [if_pos rfl] at H
      obtain ⟨y238, hy238⟩ : ∃ y_ : List ByteArray, y_ = (([(⟨#[32, 32, 97, 98, 99]⟩ : ByteArray), (⟨#[100]⟩ : ByteArray)] : List ByteArray)) := ⟨_, rfl⟩
      replace H : ((parquetrylaw17_shows.f k (⟨#[32, 32, 97, 98, 99, 100]⟩ : ByteArray) y238).bind fun t241 => (if t241 = true then ((parquetrylaw17_shows.f k (⟨#[]⟩ : ByteArray) (([(⟨#[]⟩ : ByteArray)] : List ByteArray))).bind fun t245 => (if t245 = true then ((parquetrylaw17_shows.f k (⟨#[10]⟩ : ByteArray) (([(⟨#[]⟩ : ByteArray)] : List ByteArray))).bind fun t249 => (some t249)) else (none))) else (none))) = some r := by first | (rw [hy238]; with_reducible exact H) | (have H2_ := (Option.bind_some _ _).symm.trans H; rw [hy238]; with_reducible exact H2_) | (have H2_ := (Option.bind_some _ _).symm.trans H; with_reducible exact H2_) | with_reducible exact H | (rw [hy238]; exact H) | exact H
      have Ny238 := Aside0.mk hy238
      clear hy238
      replace H := Option.bind_eq_some_iff.mp H
      obtain ⟨t241, A110, H⟩ := H
      try dsimp only at H
      have A11 := Aside0.mk A110
      clear A110
      by_cases c12 : t241 = true
      ·
       subst c12
       rw [if_pos rfl] at H
       obtain ⟨y242, hy242⟩ : ∃ y_ : List ByteArray, y_ = (([(⟨#[]⟩ : ByteArray)] : List ByteArray)) := ⟨_, rfl⟩
       replace H : ((parquetrylaw17_shows.f k (⟨#[]⟩ : ByteArray) y242).bind fun t245 => (if t245 = true then ((parquetrylaw17_shows.f k (⟨#[10]⟩ : ByteArray) (([(⟨#[]⟩ : ByteArray)] : List ByteArray))).bind fun t249 => (some t249)) else (none))) = some r := by first | (rw [hy242]; with_reducible exact H) | (have H2_ := (Option.bind_some _ _).symm.trans H; rw [hy242]; with_reducible exact H2_) | (have H2_ := (Option.bind_some _ _).symm.trans H; with_reducible exact H2_) | with_reducible exact H | (rw [hy242]; exact H) | exact H
       have Ny242 := Aside0.mk hy242
       clear hy242
       replace H := Option.bind_eq_some_iff.mp H
       obtain ⟨t245, A130, H⟩ := H
       try dsimp only at H
       have A13 := Aside0.mk A130
       clear A130
       by_cases c14 : t245 = true
       ·
        subst c14
        rw [if_pos rfl] at H
        obtain ⟨y246, hy246⟩ : ∃ y_ : List ByteArray, y_ = (([(⟨#[]⟩ : ByteArray)] : List ByteArray)) := ⟨_, rfl⟩
        replace H : ((parquetrylaw17_shows.f k (⟨#[10]⟩ : ByteArray) y246).bind fun t249 => (some t249)) = some r := by first | (rw [hy246]; with_reducible exact H) | (have H2_ := (Option.bind_some _ _).symm.trans H; rw [hy246]; with_reducible exact H2_) | (have H2_ := (Option.bind_some _ _).symm.trans H; with_reducible exact H2_) | with_reducible exact H | (rw [hy246]; exact H) | exact H
        have Ny246 := Aside0.mk hy246
        clear hy246
        replace H := Option.bind_eq_some_iff.mp H
        obtain ⟨t249, A150, H⟩ := H
        replace H : (some t249) = some r := H
        have A15 := Aside0.mk A150
        clear A150
        obtain rfl := Option.some.inj H
        go_enter Try.func17, Try.ntmps17
        go_wp2_with (first | ((with_reducible refine gate_dst (N := 1) rfl ?_); (try (refine gate_guard (by rfl) ?_; dsimp only)); refine Kd.R_lit Kd.string _ 9 ?hg (N := 1) ?hd (xs := ([(⟨#[97, 98, 32, 99, 100]⟩ : ByteArray)] : List ByteArray)) (inner := [.string (⟨#[97, 98, 32, 99, 100]⟩ : ByteArray)]) (ok := fun _ => True) (okp := fun _ => True) ?hr ?hp (fun _ hk => hk) trivial (Below.refl _ _) (Nat.le_refl _) (by simp) ?_; (case hd => rfl); (case hg => rfl); (case hr => first | (go_simp; done) | (go_simp; rfl)); (case hp => exact (Reps.one (show Kd.M Kd.string _ _ _ (⟨#[97, 98, 32, 99, 100]⟩ : ByteArray) [.string (⟨#[97, 98, 32, 99, 100]⟩ : ByteArray)] from rfl) (Reps.none _ _))); intro v219 w16 ho17 hb hg_ hnew_; clear hg_ hnew_; (first | rw [← Ny218.out] at ho17 | (simp only [Int.reduceToNat] at ho17; rw [← Ny218.out] at ho17)); have n0_ := Aside0.mk (Kd.R_lower ho17 (below_size HB.out)); have n1_ := Aside0.mk (below_step HB.out hb); clear HB; have HO220 := n0_; have HB := n1_; clear n0_ n1_; clear hb ho17; obtain ⟨Ao18, co18, eo18⟩ := Kd.R_slice HO220.out; subst eo18) | ((with_reducible refine gate_callee (f := 36) rfl ?_); refine goesL_ (some 2) rfl rfl Try.func36 (by kernel_rfl) rfl #[.string (⟨#[97, 98, 32, 99, 100]⟩ : ByteArray), .slice Ao18 y218.length co18] rfl (by (try simp only [List.map_toArray, List.map_cons, List.map_nil]); first | done | rfl | (simp only [List.length_drop, List.length_take]; rfl)) ?_; (with_reducible refine (parquetrylaw17_shows.calls k (⟨#[97, 98, 32, 99, 100]⟩ : ByteArray) _ _ y218 true _ ?side1 ?side2 A1.out).mono ?_); (case side1 => repeat (first | exact (Kd.R_reads' HO220.out).2.2 | (with_reducible refine Kd.C_alloc ?_ _) | (with_reducible refine Kd.C_drewN ?_ _) | (with_reducible refine Kd.C_drew ?_))); (case side2 => exact (Kd.R_reads' HO220.out).2.1); rintro e w19 ⟨rfl, hb⟩; refine ⟨_, rfl, ?_⟩; have n0_ := Aside0.mk (Kd.R_below (by (with_reducible repeat (first | apply Kd.R_alloc | apply Kd.R_drewN | apply Kd.R_drew)); exact HO220.out) hb); have n1_ := Aside0.mk (below_step HB.out hb); clear HO220; clear HB; have HO220 := n0_; have HB := n1_; clear n0_ n1_; (try clear hb); (try clear hb2); (try clear hk); (try clear hi)) | ((with_reducible refine gate_dst (N := 4) rfl ?_); (try (refine gate_guard (by rfl) ?_; dsimp only)); refine Kd.R_lit Kd.string _ 9 ?hg (N := 4) ?hd (xs := ([(⟨#[97, 98]⟩ : ByteArray), (⟨#[99, 100, 101, 32, 102]⟩ : ByteArray)] : List ByteArray)) (inner := [.string (⟨#[97, 98]⟩ : ByteArray), .string (⟨#[99, 100, 101, 32, 102]⟩ : ByteArray)]) (ok := fun _ => True) (okp := fun _ => True) ?hr ?hp (fun _ hk => hk) trivial (Below.refl _ _) (Nat.le_refl _) (by simp) ?_; (case hd => rfl); (case hg => rfl); (case hr => first | (go_simp; done) | (go_simp; rfl)); (case hp => exact (Reps.one (show Kd.M Kd.string _ _ _ (⟨#[97, 98]⟩ : ByteArray) [.string (⟨#[97, 98]⟩ : ByteArray)] from rfl) (Reps.one (show Kd.M Kd.string _ _ _ (⟨#[99, 100, 101, 32, 102]⟩ : ByteArray) [.string (⟨#[99, 100, 101, 32, 102]⟩ : ByteArray)] from rfl) (Reps.none _ _)))); intro v223 w20 ho21 hb hg_ hnew_; clear hg_ hnew_; (first | rw [← Ny222.out] at ho21 | (simp only [Int.reduceToNat] at ho21; rw [← Ny222.out] at ho21)); have n0_ := Aside0.mk (Kd.R_elder' (by (with_reducible repeat (first | apply Kd.R_alloc | apply Kd.R_drewN | apply Kd.R_drew)); exact HO220.out) (Kd.R_base ho21) hb); have n1_ := Aside0.mk (Kd.R_lower (Kd.R_new' ho21 (Kd.R_lt (by (with_reducible repeat (first | apply Kd.R_alloc | apply Kd.R_drewN | apply Kd.R_drew)); exact HO220.out))) (below_size HB.out)); have n2_ := Aside0.mk (below_step HB.out hb); clear HO220; clear HB; have HO220 := n0_; have HO224 := n1_; have HB := n2_; clear n0_ n1_ n2_; clear hb ho21; obtain ⟨Ao22, co22, eo22⟩ := Kd.R_slice HO224.out; subst eo22) | (go_at_call 36; (with_reducible refine (parquetrylaw17_shows.calls k (⟨#[97, 98, 32, 99, 100, 101, 32, 102]⟩ : ByteArray) _ _ y222 true _ ?side1 ?side2 A3.out).mono ?_); (case side1 => repeat (first | exact (Kd.R_reads' HO224.out).2.2 | (with_reducible refine Kd.C_alloc ?_ _) | (with_reducible refine Kd.C_drewN ?_ _) | (with_reducible refine Kd.C_drew ?_))); (case side2 => exact (Kd.R_reads' HO224.out).2.1); rintro e w23 ⟨rfl, hb⟩; have n0_ := Aside0.mk (Kd.R_below (by (with_reducible repeat (first | apply Kd.R_alloc | apply Kd.R_drewN | apply Kd.R_drew)); exact HO220.out) hb); have n1_ := Aside0.mk (Kd.R_below (by (with_reducible repeat (first | apply Kd.R_alloc | apply Kd.R_drewN | apply Kd.R_drew)); exact HO224.out) hb); have n2_ := Aside0.mk (below_step HB.out hb); clear HO220; clear HO224; clear HB; have HO220 := n0_; have HO224 := n1_; have HB := n2_; clear n0_ n1_ n2_; (try clear hb); (try clear hb2); (try clear hk); (try clear hi)) | ((with_reducible refine gate_dst (N := 8) rfl ?_); (try (refine gate_guard (by rfl) ?_; dsimp only)); refine Kd.R_lit Kd.string _ 9 ?hg (N := 8) ?hd (xs := ([(⟨#[97, 98, 99, 100, 101]⟩ : ByteArray), (⟨#[102, 103, 32, 104]⟩ : ByteArray)] : List ByteArray)) (inner := [.string (⟨#[97, 98, 99, 100, 101]⟩ : ByteArray), .string (⟨#[102, 103, 32, 104]⟩ : ByteArray)]) (ok := fun _ => True) (okp := fun _ => True) ?hr ?hp (fun _ hk => hk) trivial (Below.refl _ _) (Nat.le_refl _) (by simp) ?_; (case hd => rfl); (case hg => rfl); (case hr => first | (go_simp; done) | (go_simp; rfl)); (case hp => exact (Reps.one (show Kd.M Kd.string _ _ _ (⟨#[97, 98, 99, 100, 101]⟩ : ByteArray) [.string (⟨#[97, 98, 99, 100, 101]⟩ : ByteArray)] from rfl) (Reps.one (show Kd.M Kd.string _ _ _ (⟨#[102, 103, 32, 104]⟩ : ByteArray) [.string (⟨#[102, 103, 32, 104]⟩ : ByteArray)] from rfl) (Reps.none _ _)))); intro v227 w24 ho25 hb hg_ hnew_; clear hg_ hnew_; (first | rw [← Ny226.out] at ho25 | (simp only [Int.reduceToNat] at ho25; rw [← Ny226.out] at ho25)); have n0_ := Aside0.mk (Kd.R_elder' (by (with_reducible repeat (first | apply Kd.R_alloc | apply Kd.R_drewN | apply Kd.R_drew)); exact HO220.out) (Kd.R_base ho25) hb); have n1_ := Aside0.mk (Kd.R_elder' (by (with_reducible repeat (first | apply Kd.R_alloc | apply Kd.R_drewN | apply Kd.R_drew)); exact HO224.out) (Kd.R_base ho25) hb); have n2_ := Aside0.mk (Kd.R_lower (Kd.R_new' (Kd.R_new' ho25 (Kd.R_lt (by (with_reducible repeat (first | apply Kd.R_alloc | apply Kd.R_drewN | apply Kd.R_drew)); exact HO220.out))) (Kd.R_lt (by (with_reducible repeat (first | apply Kd.R_alloc | apply Kd.R_drewN | apply Kd.R_drew)); exact HO224.out))) (below_size HB.out)); have n3_ := Aside0.mk (below_step HB.out hb); clear HO220; clear HO224; clear HB; have HO220 := n0_; have HO224 := n1_; have HO228 := n2_; have HB := n3_; clear n0_ n1_ n2_ n3_; clear hb ho25; obtain ⟨Ao26, co26, eo26⟩ := Kd.R_slice HO228.out; subst eo26) | (go_at_call 36; (with_reducible refine (parquetrylaw17_shows.calls k (⟨#[97, 98, 99, 100, 101, 102, 103, 32, 104]⟩ : ByteArray) _ _ y226 true _ ?side1 ?side2 A5.out).mono ?_); (case side1 => repeat (first | exact (Kd.R_reads' HO228.out).2.2 | (with_reducible refine Kd.C_alloc ?_ _) | (with_reducible refine Kd.C_drewN ?_ _) | (with_reducible refine Kd.C_drew ?_))); (case side2 => exact (Kd.R_reads' HO228.out).2.1); rintro e w27 ⟨rfl, hb⟩; have n0_ := Aside0.mk (Kd.R_below (by (with_reducible repeat (first | apply Kd.R_alloc | apply Kd.R_drewN | apply Kd.R_drew)); exact HO220.out) hb); have n1_ := Aside0.mk (Kd.R_below (by (with_reducible repeat (first | apply Kd.R_alloc | apply Kd.R_drewN | apply Kd.R_drew)); exact HO224.out) hb); have n2_ := Aside0.mk (Kd.R_below (by (with_reducible repeat (first | apply Kd.R_alloc | apply Kd.R_drewN | apply Kd.R_drew)); exact HO228.out) hb); have n3_ := Aside0.mk (below_step HB.out hb); clear HO220; clear HO224; clear HO228; clear HB; have HO220 := n0_; have HO224 := n1_; have HO228 := n2_; have HB := n3_; clear n0_ n1_ n2_ n3_; (try clear hb); (try clear hb2); (try clear hk); (try clear hi)) | ((with_reducible refine gate_dst (N := 12) rfl ?_); (try (refine gate_guard (by rfl) ?_; dsimp only)); refine Kd.R_lit Kd.string _ 9 ?hg (N := 12) ?hd (xs := ([(⟨#[97, 98, 99, 100, 101]⟩ : ByteArray), (⟨#[102]⟩ : ByteArray)] : List ByteArray)) (inner := [.string (⟨#[97, 98, 99, 100, 101]⟩ : ByteArray), .string (⟨#[102]⟩ : ByteArray)]) (ok := fun _ => True) (okp := fun _ => True) ?hr ?hp (fun _ hk => hk) trivial (Below.refl _ _) (Nat.le_refl _) (by simp) ?_; (case hd => rfl); (case hg => rfl); (case hr => first | (go_simp; done) | (go_simp; rfl)); (case hp => exact (Reps.one (show Kd.M Kd.string _ _ _ (⟨#[97, 98, 99, 100, 101]⟩ : ByteArray) [.string (⟨#[97, 98, 99, 100, 101]⟩ : ByteArray)] from rfl) (Reps.one (show Kd.M Kd.string _ _ _ (⟨#[102]⟩ : ByteArray) [.string (⟨#[102]⟩ : ByteArray)] from rfl) (Reps.none _ _)))); intro v231 w28 ho29 hb hg_ hnew_; clear hg_ hnew_; (first | rw [← Ny230.out] at ho29 | (simp only [Int.reduceToNat] at ho29; rw [← Ny230.out] at ho29)); have n0_ := Aside0.mk (Kd.R_elder' (by (with_reducible repeat (first | apply Kd.R_alloc | apply Kd.R_drewN | apply Kd.R_drew)); exact HO220.out) (Kd.R_base ho29) hb); have n1_ := Aside0.mk (Kd.R_elder' (by (with_reducible repeat (first | apply Kd.R_alloc | apply Kd.R_drewN | apply Kd.R_drew)); exact HO224.out) (Kd.R_base ho29) hb); have n2_ := Aside0.mk (Kd.R_elder' (by (with_reducible repeat (first | apply Kd.R_alloc | apply Kd.R_drewN | apply Kd.R_drew)); exact HO228.out) (Kd.R_base ho29) hb); have n3_ := Aside0.mk (Kd.R_lower (Kd.R_new' (Kd.R_new' (Kd.R_new' ho29 (Kd.R_lt (by (with_reducible repeat (first | apply Kd.R_alloc | apply Kd.R_drewN | apply Kd.R_drew)); exact HO220.out))) (Kd.R_lt (by (with_reducible repeat (first | apply Kd.R_alloc | apply Kd.R_drewN | apply Kd.R_drew)); exact HO224.out))) (Kd.R_lt (by (with_reducible repeat (first | apply Kd.R_alloc | apply Kd.R_drewN | apply Kd.R_drew)); exact HO228.out))) (below_size HB.out)); have n4_ := Aside0.mk (below_step HB.out hb); clear HO220; clear HO224; clear HO228; clear HB; have HO220 := n0_; have HO224 := n1_; have HO228 := n2_; have HO232 := n3_; have HB := n4_; clear n0_ n1_ n2_ n3_ n4_; clear hb ho29; obtain ⟨Ao30, co30, eo30⟩ := Kd.R_slice HO232.out; subst eo30) | (go_at_call 36; (with_reducible refine (parquetrylaw17_shows.calls k (⟨#[97, 98, 99, 100, 101, 32, 32, 32, 102]⟩ : ByteArray) _ _ y230 true _ ?side1 ?side2 A7.out).mono ?_); (case side1 => repeat (first | exact (Kd.R_reads' HO232.out).2.2 | (with_reducible refine Kd.C_alloc ?_ _) | (with_reducible refine Kd.C_drewN ?_ _) | (with_reducible refine Kd.C_drew ?_))); (case side2 => exact (Kd.R_reads' HO232.out).2.1); rintro e w31 ⟨rfl, hb⟩; have n0_ := Aside0.mk (Kd.R_below (by (with_reducible repeat (first | apply Kd.R_alloc | apply Kd.R_drewN | apply Kd.R_drew)); exact HO220.out) hb); have n1_ := Aside0.mk (Kd.R_below (by (with_reducible repeat (first | apply Kd.R_alloc | apply Kd.R_drewN | apply Kd.R_drew)); exact HO224.out) hb); have n2_ := Aside0.mk (Kd.R_below (by (with_reducible repeat (first | apply Kd.R_alloc | apply Kd.R_drewN | apply Kd.R_drew)); exact HO228.out) hb); have n3_ := Aside0.mk (Kd.R_below (by (with_reducible repeat (first | apply Kd.R_alloc | apply Kd.R_drewN | apply Kd.R_drew)); exact HO232.out) hb); have n4_ := Aside0.mk (below_step HB.out hb); clear HO220; clear HO224; clear HO228; clear HO232; clear HB; have HO220 := n0_; have HO224 := n1_; have HO228 := n2_; have HO232 := n3_; have HB := n4_; clear n0_ n1_ n2_ n3_ n4_; (try clear hb); (try clear hb2); (try clear hk); (try clear hi)) | ((with_reducible refine gate_dst (N := 16) rfl ?_); (try (refine gate_guard (by rfl) ?_; dsimp only)); refine Kd.R_lit Kd.string _ 9 ?hg (N := 16) ?hd (xs := ([(⟨#[97, 98, 99, 100, 101]⟩ : ByteArray)] : List ByteArray)) (inner := [.string (⟨#[97, 98, 99, 100, 101]⟩ : ByteArray)]) (ok := fun _ => True) (okp := fun _ => True) ?hr ?hp (fun _ hk => hk) trivial (Below.refl _ _) (Nat.le_refl _) (by simp) ?_; (case hd => rfl); (case hg => rfl); (case hr => first | (go_simp; done) | (go_simp; rfl)); (case hp => exact (Reps.one (show Kd.M Kd.string _ _ _ (⟨#[97, 98, 99, 100, 101]⟩ : ByteArray) [.string (⟨#[97, 98, 99, 100, 101]⟩ : ByteArray)] from rfl) (Reps.none _ _))); intro v235 w32 ho33 hb hg_ hnew_; clear hg_ hnew_; (first | rw [← Ny234.out] at ho33 | (simp only [Int.reduceToNat] at ho33; rw [← Ny234.out] at ho33)); have n0_ := Aside0.mk (Kd.R_elder' (by (with_reducible repeat (first | apply Kd.R_alloc | apply Kd.R_drewN | apply Kd.R_drew)); exact HO220.out) (Kd.R_base ho33) hb); have n1_ := Aside0.mk (Kd.R_elder' (by (with_reducible repeat (first | apply Kd.R_alloc | apply Kd.R_drewN | apply Kd.R_drew)); exact HO224.out) (Kd.R_base ho33) hb); have n2_ := Aside0.mk (Kd.R_elder' (by (with_reducible repeat (first | apply Kd.R_alloc | apply Kd.R_drewN | apply Kd.R_drew)); exact HO228.out) (Kd.R_base ho33) hb); have n3_ := Aside0.mk (Kd.R_elder' (by (with_reducible repeat (first | apply Kd.R_alloc | apply Kd.R_drewN | apply Kd.R_drew)); exact HO232.out) (Kd.R_base ho33) hb); have n4_ := Aside0.mk (Kd.R_lower (Kd.R_new' (Kd.R_new' (Kd.R_new' (Kd.R_new' ho33 (Kd.R_lt (by (with_reducible repeat (first | apply Kd.R_alloc | apply Kd.R_drewN | apply Kd.R_drew)); exact HO220.out))) (Kd.R_lt (by (with_reducible repeat (first | apply Kd.R_alloc | apply Kd.R_drewN | apply Kd.R_drew)); exact HO224.out))) (Kd.R_lt (by (with_reducible repeat (first | apply Kd.R_alloc | apply Kd.R_drewN | apply Kd.R_drew)); exact HO228.out))) (Kd.R_lt (by (with_reducible repeat (first | apply Kd.R_alloc | apply Kd.R_drewN | apply Kd.R_drew)); exact HO232.out))) (below_size HB.out)); have n5_ := Aside0.mk (below_step HB.out hb); clear HO220; clear HO224; clear HO228; clear HO232; clear HB; have HO220 := n0_; have HO224 := n1_; have HO228 := n2_; have HO232 := n3_; have HO236 := n4_; have HB := n5_; clear n0_ n1_ n2_ n3_ n4_ n5_; clear hb ho33; obtain ⟨Ao34, co34, eo34⟩ := Kd.R_slice HO236.out; subst eo34) | (go_at_call 36; (with_reducible refine (parquetrylaw17_shows.calls k (⟨#[97, 98, 99, 100, 101, 32, 32, 32]⟩ : ByteArray) _ _ y234 true _ ?side1 ?side2 A9.out).mono ?_); (case side1 => repeat (first | exact (Kd.R_reads' HO236.out).2.2 | (with_reducible refine Kd.C_alloc ?_ _) | (with_reducible refine Kd.C_drewN ?_ _) | (with_reducible refine Kd.C_drew ?_))); (case side2 => exact (Kd.R_reads' HO236.out).2.1); rintro e w35 ⟨rfl, hb⟩; have n0_ := Aside0.mk (Kd.R_below (by (with_reducible repeat (first | apply Kd.R_alloc | apply Kd.R_drewN | apply Kd.R_drew)); exact HO220.out) hb); have n1_ := Aside0.mk (Kd.R_below (by (with_reducible repeat (first | apply Kd.R_alloc | apply Kd.R_drewN | apply Kd.R_drew)); exact HO224.out) hb); have n2_ := Aside0.mk (Kd.R_below (by (with_reducible repeat (first | apply Kd.R_alloc | apply Kd.R_drewN | apply Kd.R_drew)); exact HO228.out) hb); have n3_ := Aside0.mk (Kd.R_below (by (with_reducible repeat (first | apply Kd.R_alloc | apply Kd.R_drewN | apply Kd.R_drew)); exact HO232.out) hb); have n4_ := Aside0.mk (Kd.R_below (by (with_reducible repeat (first | apply Kd.R_alloc | apply Kd.R_drewN | apply Kd.R_drew)); exact HO236.out) hb); have n5_ := Aside0.mk (below_step HB.out hb); clear HO220; clear HO224; clear HO228; clear HO232; clear HO236; clear HB; have HO220 := n0_; have HO224 := n1_; have HO228 := n2_; have HO232 := n3_; have HO236 := n4_; have HB := n5_; clear n0_ n1_ n2_ n3_ n4_ n5_; (try clear hb); (try clear hb2); (try clear hk); (try clear hi)) | ((with_reducible refine gate_dst (N := 20) rfl ?_); (try (refine gate_guard (by rfl) ?_; dsimp only)); refine Kd.R_lit Kd.string _ 9 ?hg (N := 20) ?hd (xs := ([(⟨#[32, 32, 97, 98, 99]⟩ : ByteArray), (⟨#[100]⟩ : ByteArray)] : List ByteArray)) (inner := [.string (⟨#[32, 32, 97, 98, 99]⟩ : ByteArray), .string (⟨#[100]⟩ : ByteArray)]) (ok := fun _ => True) (okp := fun _ => True) ?hr ?hp (fun _ hk => hk) trivial (Below.refl _ _) (Nat.le_refl _) (by simp) ?_; (case hd => rfl); (case hg => rfl); (case hr => first | (go_simp; done) | (go_simp; rfl)); (case hp => exact (Reps.one (show Kd.M Kd.string _ _ _ (⟨#[32, 32, 97, 98, 99]⟩ : ByteArray) [.string (⟨#[32, 32, 97, 98, 99]⟩ : ByteArray)] from rfl) (Reps.one (show Kd.M Kd.string _ _ _ (⟨#[100]⟩ : ByteArray) [.string (⟨#[100]⟩ : ByteArray)] from rfl) (Reps.none _ _)))); intro v239 w36 ho37 hb hg_ hnew_; clear hg_ hnew_; (first | rw [← Ny238.out] at ho37 | (simp only [Int.reduceToNat] at ho37; rw [← Ny238.out] at ho37)); have n0_ := Aside0.mk (Kd.R_elder' (by (with_reducible repeat (first | apply Kd.R_alloc | apply Kd.R_drewN | apply Kd.R_drew)); exact HO220.out) (Kd.R_base ho37) hb); have n1_ := Aside0.mk (Kd.R_elder' (by (with_reducible repeat (first | apply Kd.R_alloc | apply Kd.R_drewN | apply Kd.R_drew)); exact HO224.out) (Kd.R_base ho37) hb); have n2_ := Aside0.mk (Kd.R_elder' (by (with_reducible repeat (first | apply Kd.R_alloc | apply Kd.R_drewN | apply Kd.R_drew)); exact HO228.out) (Kd.R_base ho37) hb); have n3_ := Aside0.mk (Kd.R_elder' (by (with_reducible repeat (first | apply Kd.R_alloc | apply Kd.R_drewN | apply Kd.R_drew)); exact HO232.out) (Kd.R_base ho37) hb); have n4_ := Aside0.mk (Kd.R_elder' (by (with_reducible repeat (first | apply Kd.R_alloc | apply Kd.R_drewN | apply Kd.R_drew)); exact HO236.out) (Kd.R_base ho37) hb); have n5_ := Aside0.mk (Kd.R_lower (Kd.R_new' (Kd.R_new' (Kd.R_new' (Kd.R_new' (Kd.R_new' ho37 (Kd.R_lt (by (with_reducible repeat (first | apply Kd.R_alloc | apply Kd.R_drewN | apply Kd.R_drew)); exact HO220.out))) (Kd.R_lt (by (with_reducible repeat (first | apply Kd.R_alloc | apply Kd.R_drewN | apply Kd.R_drew)); exact HO224.out))) (Kd.R_lt (by (with_reducible repeat (first | apply Kd.R_alloc | apply Kd.R_drewN | apply Kd.R_drew)); exact HO228.out))) (Kd.R_lt (by (with_reducible repeat (first | apply Kd.R_alloc | apply Kd.R_drewN | apply Kd.R_drew)); exact HO232.out))) (Kd.R_lt (by (with_reducible repeat (first | apply Kd.R_alloc | apply Kd.R_drewN | apply Kd.R_drew)); exact HO236.out))) (below_size HB.out)); have n6_ := Aside0.mk (below_step HB.out hb); clear HO220; clear HO224; clear HO228; clear HO232; clear HO236; clear HB; have HO220 := n0_; have HO224 := n1_; have HO228 := n2_; have HO232 := n3_; have HO236 := n4_; have HO240 := n5_; have HB := n6_; clear n0_ n1_ n2_ n3_ n4_ n5_ n6_; clear hb ho37; obtain ⟨Ao38, co38, eo38⟩ := Kd.R_slice HO240.out; subst eo38) | (go_at_call 36; (with_reducible refine (parquetrylaw17_shows.calls k (⟨#[32, 32, 97, 98, 99, 100]⟩ : ByteArray) _ _ y238 true _ ?side1 ?side2 A11.out).mono ?_); (case side1 => repeat (first | exact (Kd.R_reads' HO240.out).2.2 | (with_reducible refine Kd.C_alloc ?_ _) | (with_reducible refine Kd.C_drewN ?_ _) | (with_reducible refine Kd.C_drew ?_))); (case side2 => exact (Kd.R_reads' HO240.out).2.1); rintro e w39 ⟨rfl, hb⟩; have n0_ := Aside0.mk (Kd.R_below (by (with_reducible repeat (first | apply Kd.R_alloc | apply Kd.R_drewN | apply Kd.R_drew)); exact HO220.out) hb); have n1_ := Aside0.mk (Kd.R_below (by (with_reducible repeat (first | apply Kd.R_alloc | apply Kd.R_drewN | apply Kd.R_drew)); exact HO224.out) hb); have n2_ := Aside0.mk (Kd.R_below (by (with_reducible repeat (first | apply Kd.R_alloc | apply Kd.R_drewN | apply Kd.R_drew)); exact HO228.out) hb); have n3_ := Aside0.mk (Kd.R_below (by (with_reducible repeat (first | apply Kd.R_alloc | apply Kd.R_drewN | apply Kd.R_drew)); exact HO232.out) hb); have n4_ := Aside0.mk (Kd.R_below (by (with_reducible repeat (first | apply Kd.R_alloc | apply Kd.R_drewN | apply Kd.R_drew)); exact HO236.out) hb); have n5_ := Aside0.mk (Kd.R_below (by (with_reducible repeat (first | apply Kd.R_alloc | apply Kd.R_drewN | apply Kd.R_drew)); exact HO240.out) hb); have n6_ := Aside0.mk (below_step HB.out hb); clear HO220; clear HO224; clear HO228; clear HO232; clear HO236; clear HO240; clear HB; have HO220 := n0_; have HO224 := n1_; have HO228 := n2_; have HO232 := n3_; have HO236 := n4_; have HO240 := n5_; have HB := n6_; clear n0_ n1_ n2_ n3_ n4_ n5_ n6_; (try clear hb); (try clear hb2); (try clear hk); (try clear hi)) | ((with_reducible refine gate_dst (N := 24) rfl ?_); (try (refine gate_guard (by rfl) ?_; dsimp only)); refine Kd.R_lit Kd.string _ 9 ?hg (N := 24) ?hd (xs := ([(⟨#[]⟩ : ByteArray)] : List ByteArray)) (inner := [.string (⟨#[]⟩ : ByteArray)]) (ok := fun _ => True) (okp := fun _ => True) ?hr ?hp (fun _ hk => hk) trivial (Below.refl _ _) (Nat.le_refl _) (by simp) ?_; (case hd => rfl); (case hg => rfl); (case hr => first | (go_simp; done) | (go_simp; rfl)); (case hp => exact (Reps.one (show Kd.M Kd.string _ _ _ (⟨#[]⟩ : ByteArray) [.string (⟨#[]⟩ : ByteArray)] from rfl) (Reps.none _ _))); intro v243 w40 ho41 hb hg_ hnew_; clear hg_ hnew_; (first | rw [← Ny242.out] at ho41 | (simp only [Int.reduceToNat] at ho41; rw [← Ny242.out] at ho41)); have n0_ := Aside0.mk (Kd.R_elder' (by (with_reducible repeat (first | apply Kd.R_alloc | apply Kd.R_drewN | apply Kd.R_drew)); exact HO220.out) (Kd.R_base ho41) hb); have n1_ := Aside0.mk (Kd.R_elder' (by (with_reducible repeat (first | apply Kd.R_alloc | apply Kd.R_drewN | apply Kd.R_drew)); exact HO224.out) (Kd.R_base ho41) hb); have n2_ := Aside0.mk (Kd.R_elder' (by (with_reducible repeat (first | apply Kd.R_alloc | apply Kd.R_drewN | apply Kd.R_drew)); exact HO228.out) (Kd.R_base ho41) hb); have n3_ := Aside0.mk (Kd.R_elder' (by (with_reducible repeat (first | apply Kd.R_alloc | apply Kd.R_drewN | apply Kd.R_drew)); exact HO232.out) (Kd.R_base ho41) hb); have n4_ := Aside0.mk (Kd.R_elder' (by (with_reducible repeat (first | apply Kd.R_alloc | apply Kd.R_drewN | apply Kd.R_drew)); exact HO236.out) (Kd.R_base ho41) hb); have n5_ := Aside0.mk (Kd.R_elder' (by (with_reducible repeat (first | apply Kd.R_alloc | apply Kd.R_drewN | apply Kd.R_drew)); exact HO240.out) (Kd.R_base ho41) hb); have n6_ := Aside0.mk (Kd.R_lower (Kd.R_new' (Kd.R_new' (Kd.R_new' (Kd.R_new' (Kd.R_new' (Kd.R_new' ho41 (Kd.R_lt (by (with_reducible repeat (first | apply Kd.R_alloc | apply Kd.R_drewN | apply Kd.R_drew)); exact HO220.out))) (Kd.R_lt (by (with_reducible repeat (first | apply Kd.R_alloc | apply Kd.R_drewN | apply Kd.R_drew)); exact HO224.out))) (Kd.R_lt (by (with_reducible repeat (first | apply Kd.R_alloc | apply Kd.R_drewN | apply Kd.R_drew)); exact HO228.out))) (Kd.R_lt (by (with_reducible repeat (first | apply Kd.R_alloc | apply Kd.R_drewN | apply Kd.R_drew)); exact HO232.out))) (Kd.R_lt (by (with_reducible repeat (first | apply Kd.R_alloc | apply Kd.R_drewN | apply Kd.R_drew)); exact HO236.out))) (Kd.R_lt (by (with_reducible repeat (first | apply Kd.R_alloc | apply Kd.R_drewN | apply Kd.R_drew)); exact HO240.out))) (below_size HB.out)); have n7_ := Aside0.mk (below_step HB.out hb); clear HO220; clear HO224; clear HO228; clear HO232; clear HO236; clear HO240; clear HB; have HO220 := n0_; have HO224 := n1_; have HO228 := n2_; have HO232 := n3_; have HO236 := n4_; have HO240 := n5_; have HO244 := n6_; have HB := n7_; clear n0_ n1_ n2_ n3_ n4_ n5_ n6_ n7_; clear hb ho41; obtain ⟨Ao42, co42, eo42⟩ := Kd.R_slice HO244.out; subst eo42) | (go_at_call 36; (with_reducible refine (parquetrylaw17_shows.calls k (⟨#[]⟩ : ByteArray) _ _ y242 true _ ?side1 ?side2 A13.out).mono ?_); (case side1 => repeat (first | exact (Kd.R_reads' HO244.out).2.2 | (with_reducible refine Kd.C_alloc ?_ _) | (with_reducible refine Kd.C_drewN ?_ _) | (with_reducible refine Kd.C_drew ?_))); (case side2 => exact (Kd.R_reads' HO244.out).2.1); rintro e w43 ⟨rfl, hb⟩; have n0_ := Aside0.mk (Kd.R_below (by (with_reducible repeat (first | apply Kd.R_alloc | apply Kd.R_drewN | apply Kd.R_drew)); exact HO220.out) hb); have n1_ := Aside0.mk (Kd.R_below (by (with_reducible repeat (first | apply Kd.R_alloc | apply Kd.R_drewN | apply Kd.R_drew)); exact HO224.out) hb); have n2_ := Aside0.mk (Kd.R_below (by (with_reducible repeat (first | apply Kd.R_alloc | apply Kd.R_drewN | apply Kd.R_drew)); exact HO228.out) hb); have n3_ := Aside0.mk (Kd.R_below (by (with_reducible repeat (first | apply Kd.R_alloc | apply Kd.R_drewN | apply Kd.R_drew)); exact HO232.out) hb); have n4_ := Aside0.mk (Kd.R_below (by (with_reducible repeat (first | apply Kd.R_alloc | apply Kd.R_drewN | apply Kd.R_drew)); exact HO236.out) hb); have n5_ := Aside0.mk (Kd.R_below (by (with_reducible repeat (first | apply Kd.R_alloc | apply Kd.R_drewN | apply Kd.R_drew)); exact HO240.out) hb); have n6_ := Aside0.mk (Kd.R_below (by (with_reducible repeat (first | apply Kd.R_alloc | apply Kd.R_drewN | apply Kd.R_drew)); exact HO244.out) hb); have n7_ := Aside0.mk (below_step HB.out hb); clear HO220; clear HO224; clear HO228; clear HO232; clear HO236; clear HO240; clear HO244; clear HB; have HO220 := n0_; have HO224 := n1_; have HO228 := n2_; have HO232 := n3_; have HO236 := n4_; have HO240 := n5_; have HO244 := n6_; have HB := n7_; clear n0_ n1_ n2_ n3_ n4_ n5_ n6_ n7_; (try clear hb); (try clear hb2); (try clear hk); (try clear hi)) | ((with_reducible refine gate_dst (N := 28) rfl ?_); (try (refine gate_guard (by rfl) ?_; dsimp only)); refine Kd.R_lit Kd.string _ 9 ?hg (N := 28) ?hd (xs := ([(⟨#[]⟩ : ByteArray)] : List ByteArray)) (inner := [.string (⟨#[]⟩ : ByteArray)]) (ok := fun _ => True) (okp := fun _ => True) ?hr ?hp (fun _ hk => hk) trivial (Below.refl _ _) (Nat.le_refl _) (by simp) ?_; (case hd => rfl); (case hg => rfl); (case hr => first | (go_simp; done) | (go_simp; rfl)); (case hp => exact (Reps.one (show Kd.M Kd.string _ _ _ (⟨#[]⟩ : ByteArray) [.string (⟨#[]⟩ : ByteArray)] from rfl) (Reps.none _ _))); intro v247 w44 ho45 hb hg_ hnew_; clear hg_ hnew_; (first | rw [← Ny246.out] at ho45 | (simp only [Int.reduceToNat] at ho45; rw [← Ny246.out] at ho45)); have n0_ := Aside0.mk (Kd.R_elder' (by (with_reducible repeat (first | apply Kd.R_alloc | apply Kd.R_drewN | apply Kd.R_drew)); exact HO220.out) (Kd.R_base ho45) hb); have n1_ := Aside0.mk (Kd.R_elder' (by (with_reducible repeat (first | apply Kd.R_alloc | apply Kd.R_drewN | apply Kd.R_drew)); exact HO224.out) (Kd.R_base ho45) hb); have n2_ := Aside0.mk (Kd.R_elder' (by (with_reducible repeat (first | apply Kd.R_alloc | apply Kd.R_drewN | apply Kd.R_drew)); exact HO228.out) (Kd.R_base ho45) hb); have n3_ := Aside0.mk (Kd.R_elder' (by (with_reducible repeat (first | apply Kd.R_alloc | apply Kd.R_drewN | apply Kd.R_drew)); exact HO232.out) (Kd.R_base ho45) hb); have n4_ := Aside0.mk (Kd.R_elder' (by (with_reducible repeat (first | apply Kd.R_alloc | apply Kd.R_drewN | apply Kd.R_drew)); exact HO236.out) (Kd.R_base ho45) hb); have n5_ := Aside0.mk (Kd.R_elder' (by (with_reducible repeat (first | apply Kd.R_alloc | apply Kd.R_drewN | apply Kd.R_drew)); exact HO240.out) (Kd.R_base ho45) hb); have n6_ := Aside0.mk (Kd.R_elder' (by (with_reducible repeat (first | apply Kd.R_alloc | apply Kd.R_drewN | apply Kd.R_drew)); exact HO244.out) (Kd.R_base ho45) hb); have n7_ := Aside0.mk (Kd.R_lower (Kd.R_new' (Kd.R_new' (Kd.R_new' (Kd.R_new' (Kd.R_new' (Kd.R_new' (Kd.R_new' ho45 (Kd.R_lt (by (with_reducible repeat (first | apply Kd.R_alloc | apply Kd.R_drewN | apply Kd.R_drew)); exact HO220.out))) (Kd.R_lt (by (with_reducible repeat (first | apply Kd.R_alloc | apply Kd.R_drewN | apply Kd.R_drew)); exact HO224.out))) (Kd.R_lt (by (with_reducible repeat (first | apply Kd.R_alloc | apply Kd.R_drewN | apply Kd.R_drew)); exact HO228.out))) (Kd.R_lt (by (with_reducible repeat (first | apply Kd.R_alloc | apply Kd.R_drewN | apply Kd.R_drew)); exact HO232.out))) (Kd.R_lt (by (with_reducible repeat (first | apply Kd.R_alloc | apply Kd.R_drewN | apply Kd.R_drew)); exact HO236.out))) (Kd.R_lt (by (with_reducible repeat (first | apply Kd.R_alloc | apply Kd.R_drewN | apply Kd.R_drew)); exact HO240.out))) (Kd.R_lt (by (with_reducible repeat (first | apply Kd.R_alloc | apply Kd.R_drewN | apply Kd.R_drew)); exact HO244.out))) (below_size HB.out)); have n8_ := Aside0.mk (below_step HB.out hb); clear HO220; clear HO224; clear HO228; clear HO232; clear HO236; clear HO240; clear HO244; clear HB; have HO220 := n0_; have HO224 := n1_; have HO228 := n2_; have HO232 := n3_; have HO236 := n4_; have HO240 := n5_; have HO244 := n6_; have HO248 := n7_; have HB := n8_; clear n0_ n1_ n2_ n3_ n4_ n5_ n6_ n7_ n8_; clear hb ho45; obtain ⟨Ao46, co46, eo46⟩ := Kd.R_slice HO248.out; subst eo46) | (go_at_call 36; (with_reducible refine (parquetrylaw17_shows.calls k (⟨#[10]⟩ : ByteArray) _ _ y246 t249 _ ?side1 ?side2 A15.out).mono ?_); (case side1 => repeat (first | exact (Kd.R_reads' HO248.out).2.2 | (with_reducible refine Kd.C_alloc ?_ _) | (with_reducible refine Kd.C_drewN ?_ _) | (with_reducible refine Kd.C_drew ?_))); (case side2 => exact (Kd.R_reads' HO248.out).2.1); rintro e w47 ⟨rfl, hb⟩; have n0_ := Aside0.mk (Kd.R_below (by (with_reducible repeat (first | apply Kd.R_alloc | apply Kd.R_drewN | apply Kd.R_drew)); exact HO220.out) hb); have n1_ := Aside0.mk (Kd.R_below (by (with_reducible repeat (first | apply Kd.R_alloc | apply Kd.R_drewN | apply Kd.R_drew)); exact HO224.out) hb); have n2_ := Aside0.mk (Kd.R_below (by (with_reducible repeat (first | apply Kd.R_alloc | apply Kd.R_drewN | apply Kd.R_drew)); exact HO228.out) hb); have n3_ := Aside0.mk (Kd.R_below (by (with_reducible repeat (first | apply Kd.R_alloc | apply Kd.R_drewN | apply Kd.R_drew)); exact HO232.out) hb); have n4_ := Aside0.mk (Kd.R_below (by (with_reducible repeat (first | apply Kd.R_alloc | apply Kd.R_drewN | apply Kd.R_drew)); exact HO236.out) hb); have n5_ := Aside0.mk (Kd.R_below (by (with_reducible repeat (first | apply Kd.R_alloc | apply Kd.R_drewN | apply Kd.R_drew)); exact HO240.out) hb); have n6_ := Aside0.mk (Kd.R_below (by (with_reducible repeat (first | apply Kd.R_alloc | apply Kd.R_drewN | apply Kd.R_drew)); exact HO244.out) hb); have n7_ := Aside0.mk (Kd.R_below (by (with_reducible repeat (first | apply Kd.R_alloc | apply Kd.R_drewN | apply Kd.R_drew)); exact HO248.out) hb); have n8_ := Aside0.mk (below_step HB.out hb); clear HO220; clear HO224; clear HO228; clear HO232; clear HO236; clear HO240; clear HO244; clear HO248; clear HB; have HO220 := n0_; have HO224 := n1_; have HO228 := n2_; have HO232 := n3_; have HO236 := n4_; have HO240 := n5_; have HO244 := n6_; have HO248 := n7_; have HB := n8_; clear n0_ n1_ n2_ n3_ n4_ n5_ n6_ n7_ n8_; (try clear hb); (try clear hb2); (try clear hk); (try clear hi)))
        go_ret
        exact ⟨by first | rfl | (simp [errW_none, errW_some] <;> rfl) | (simp [*, errW_none, errW_some] <;> rfl), by repeat (first | (with_reducible first | exact HB.out | apply below_alloc | apply pw_below_drewN | apply below_drew1) | exact HB.out)⟩
       ·
        rw [if_neg c14] at H
        cases H
      ·
       rw [if_neg c12] at H
       cases H
     ·
      rw [if_neg c10] at H
      cases H
    ·
     rw [if_neg c8] at H
     cases H
   ·
    rw [if_neg c6] at H
    cases H
  ·
   rw [if_neg c4] at H
   cases H
 ·
  rw [if_neg c2] at H
  cases H


/-! ### parquetryref02_Table: function 46: by hand -/
def parquetryref02_Table.L1 : List Int := [1424, 1424, 1470, 1470, 1472, 1472, 1475, 1475, 1478, 1478, 1480, 1535, 8207, 8207, 64285, 64285, 64287, 64296, 64298, 64335]
def parquetryref02_Table.L2 : List Int := [1544, 1544, 1547, 1547, 1549, 1549, 1563, 1610, 1645, 1647, 1649, 1749, 1765, 1766, 1774, 1775, 1786, 1791, 1872, 1919, 65136, 65278]
def parquetryref02_Table.L3 : List Int := [48, 57, 178, 179, 185, 185, 1776, 1785, 8304, 8304, 8308, 8313, 8320, 8329, 9352, 9371, 65296, 65305]
def parquetryref02_Table.L4 : List Int := [43, 43, 45, 45, 8314, 8315, 8330, 8331, 8722, 8722, 64297, 64297, 65122, 65123, 65291, 65291, 65293, 65293]
def parquetryref02_Table.L5 : List Int := [35, 37, 162, 165, 176, 177, 1423, 1423, 1545, 1546, 1642, 1642, 8240, 8244, 8352, 8399, 8723, 8723, 65119, 65119, 65129, 65130, 65283, 65285, 65504, 65505, 65509, 65510]
def parquetryref02_Table.L6 : List Int := [1536, 1541, 1632, 1641, 1643, 1644, 1757, 1757, 2274, 2274]
def parquetryref02_Table.L7 : List Int := [44, 44, 46, 47, 58, 58, 160, 160, 1548, 1548, 8239, 8239, 8260, 8260, 65104, 65104, 65106, 65106, 65109, 65109, 65292, 65292, 65294, 65295, 65306, 65306]
def parquetryref02_Table.L8 : List Int := [768, 879, 1155, 1161, 1425, 1469, 1471, 1471, 1473, 1474, 1476, 1477, 1479, 1479, 1552, 1562, 1611, 1631, 1648, 1648, 1750, 1756, 1759, 1764, 1767, 1768, 1770, 1773, 2364, 2364, 2369, 2376, 2381, 2381, 8400, 8432, 12330, 12333, 12441, 12442, 64286, 64286, 65024, 65039, 65056, 65071, 917760, 917999]
def parquetryref02_Table.L9 : List Int := [0, 8, 14, 27, 127, 132, 134, 159, 173, 173, 8203, 8205, 8288, 8293, 8298, 8303, 65279, 65279]
def parquetryref02_Table.L10 : List Int := [10, 10, 13, 13, 28, 30, 133, 133, 8233, 8233]
def parquetryref02_Table.L11 : List Int := [9, 9, 11, 11, 31, 31]
def parquetryref02_Table.L12 : List Int := [12, 12, 32, 32, 5760, 5760, 8192, 8202, 8232, 8232, 8287, 8287, 12288, 12288]
def parquetryref02_Table.L13 : List Int := [33, 34, 38, 42, 59, 64, 91, 96, 123, 126, 161, 161, 166, 169, 171, 172, 174, 175, 180, 180, 182, 184, 187, 191, 215, 215, 247, 247, 1542, 1543, 1550, 1551, 1758, 1758, 1769, 1769, 8208, 8231, 8245, 8259, 8261, 8286, 8316, 8318, 8332, 8334, 8592, 8721, 8724, 9013, 9472, 9899, 9901, 10239, 11904, 11929, 12289, 12292, 12296, 12320, 12336, 12336, 65281, 65282, 65286, 65290, 65307, 65312, 65339, 65344, 65371, 65381, 65529, 65533, 127744, 128591]
def parquetryref02_Table.L14 : List Int := [8234, 8234]
def parquetryref02_Table.L15 : List Int := [8235, 8235]
def parquetryref02_Table.L16 : List Int := [8236, 8236]
def parquetryref02_Table.L17 : List Int := [8237, 8237]
def parquetryref02_Table.L18 : List Int := [8238, 8238]
def parquetryref02_Table.L19 : List Int := [8294, 8294]
def parquetryref02_Table.L20 : List Int := [8295, 8295]
def parquetryref02_Table.L21 : List Int := [8296, 8296]
def parquetryref02_Table.L22 : List Int := [8297, 8297]
def parquetryref02_Table.f  : Option ((List (S76))) := some (([(⟨1, parquetryref02_Table.L1⟩ : S76), (⟨2, parquetryref02_Table.L2⟩ : S76), (⟨3, parquetryref02_Table.L3⟩ : S76), (⟨4, parquetryref02_Table.L4⟩ : S76), (⟨5, parquetryref02_Table.L5⟩ : S76), (⟨6, parquetryref02_Table.L6⟩ : S76), (⟨7, parquetryref02_Table.L7⟩ : S76), (⟨8, parquetryref02_Table.L8⟩ : S76), (⟨9, parquetryref02_Table.L9⟩ : S76), (⟨10, parquetryref02_Table.L10⟩ : S76), (⟨11, parquetryref02_Table.L11⟩ : S76), (⟨12, parquetryref02_Table.L12⟩ : S76), (⟨13, parquetryref02_Table.L13⟩ : S76), (⟨14, parquetryref02_Table.L14⟩ : S76), (⟨16, parquetryref02_Table.L15⟩ : S76), (⟨18, parquetryref02_Table.L16⟩ : S76), (⟨15, parquetryref02_Table.L17⟩ : S76), (⟨17, parquetryref02_Table.L18⟩ : S76), (⟨19, parquetryref02_Table.L19⟩ : S76), (⟨20, parquetryref02_Table.L20⟩ : S76), (⟨21, parquetryref02_Table.L21⟩ : S76), (⟨22, parquetryref02_Table.L22⟩ : S76)] : List (S76)))
theorem parquetryref02_Table.up {w W W' w' : World} {v : Value} {xs : List Int} (h : (Kd.int .i64).R 3 W' W.heap.size (fun _ => True) v xs) (h1 : w.heap.size ≤ W.heap.size) (hb : Below W'.heap.size W' w') : (Kd.int .i64).R 3 w' w.heap.size (fun k => w.heap.size ≤ k) v xs :=
 Kd.R_lower (Kd.R_mono (Kd.R_bound (Kd.R_below h hb)) (fun k hk => Nat.le_trans h1 hk.2.1)) h1
set_option maxHeartbeats 8000000 in
set_option maxRecDepth 100000 in
theorem parquetryref02_Table.calls  (r : List (S76)) (w : World) (h : parquetryref02_Table.f  = some r) :
  Calls Try.prog 46 #[] w fun e w' => ∃ v0_ : Value, e = .returned (v0_) ∧ Kd.N k76 76 w' w.heap.size (fun k_ => (w.heap.size ≤ k_)) v0_ r ∧ Below w.heap.size w w' := by
 have hu := Try.underlying76
 have HB := Aside0.mk (Below.refl w.heap.size w)
 have H : (some (([(⟨1, parquetryref02_Table.L1⟩ : S76), (⟨2, parquetryref02_Table.L2⟩ : S76), (⟨3, parquetryref02_Table.L3⟩ : S76), (⟨4, parquetryref02_Table.L4⟩ : S76), (⟨5, parquetryref02_Table.L5⟩ : S76), (⟨6, parquetryref02_Table.L6⟩ : S76), (⟨7, parquetryref02_Table.L7⟩ : S76), (⟨8, parquetryref02_Table.L8⟩ : S76), (⟨9, parquetryref02_Table.L9⟩ : S76), (⟨10, parquetryref02_Table.L10⟩ : S76), (⟨11, parquetryref02_Table.L11⟩ : S76), (⟨12, parquetryref02_Table.L12⟩ : S76), (⟨13, parquetryref02_Table.L13⟩ : S76), (⟨14, parquetryref02_Table.L14⟩ : S76), (⟨16, parquetryref02_Table.L15⟩ : S76), (⟨18, parquetryref02_Table.L16⟩ : S76), (⟨15, parquetryref02_Table.L17⟩ : S76), (⟨17, parquetryref02_Table.L18⟩ : S76), (⟨19, parquetryref02_Table.L19⟩ : S76), (⟨20, parquetryref02_Table.L20⟩ : S76), (⟨21, parquetryref02_Table.L21⟩ : S76), (⟨22, parquetryref02_Table.L22⟩ : S76)] : List (S76)))) = some r := h
 clear h
 obtain ⟨y266, hy266⟩ : ∃ y_ : List (S76), y_ = (([(⟨1, parquetryref02_Table.L1⟩ : S76), (⟨2, parquetryref02_Table.L2⟩ : S76), (⟨3, parquetryref02_Table.L3⟩ : S76), (⟨4, parquetryref02_Table.L4⟩ : S76), (⟨5, parquetryref02_Table.L5⟩ : S76), (⟨6, parquetryref02_Table.L6⟩ : S76), (⟨7, parquetryref02_Table.L7⟩ : S76), (⟨8, parquetryref02_Table.L8⟩ : S76), (⟨9, parquetryref02_Table.L9⟩ : S76), (⟨10, parquetryref02_Table.L10⟩ : S76), (⟨11, parquetryref02_Table.L11⟩ : S76), (⟨12, parquetryref02_Table.L12⟩ : S76), (⟨13, parquetryref02_Table.L13⟩ : S76), (⟨14, parquetryref02_Table.L14⟩ : S76), (⟨16, parquetryref02_Table.L15⟩ : S76), (⟨18, parquetryref02_Table.L16⟩ : S76), (⟨15, parquetryref02_Table.L17⟩ : S76), (⟨17, parquetryref02_Table.L18⟩ : S76), (⟨19, parquetryref02_Table.L19⟩ : S76), (⟨20, parquetryref02_Table.L20⟩ : S76), (⟨21, parquetryref02_Table.L21⟩ : S76), (⟨22, parquetryref02_Table.L22⟩ : S76)] : List (S76))) := ⟨_, rfl⟩
 replace H : (some y266) = some r := by first | (rw [hy266]; with_reducible exact H) | (have H2_ := (Option.bind_some _ _).symm.trans H; rw [hy266]; with_reducible exact H2_) | (have H2_ := (Option.bind_some _ _).symm.trans H; with_reducible exact H2_) | with_reducible exact H | (rw [hy266]; exact H) | exact H
 have Ny266 := Aside0.mk hy266
 clear hy266
 obtain rfl := Option.some.inj H
 go_enter Try.func46, Try.ntmps46
 try dsimp only [List.append]
 go_wp2_with (first | ((with_reducible refine gate_dst (N := 1) rfl ?_); refine Go.Proofs.YtieffcjbbhigbaaH.row_event _ 3 rfl (N := 1) rfl 74 20 .i64 parquetryref02_Table.L1 ?ho (by kernel_rfl) Try.underlying74 (by kernel_rfl) (by kernel_rfl) (by decide) (by decide) (Below.refl _ _) (Nat.le_refl _) ?_; (case ho => kernel_rfl); intro v w1 ho hb hg_ hnew_; clear hg_ hnew_; have H1 := Aside0.mk ho; have B1 := Aside0.mk hb; have S1 := Aside0.mk (below_size HB.out); have n1_ := Aside0.mk (below_step HB.out hb); clear HB; have HB := n1_; clear n1_ ho hb; obtain ⟨Ao3, co3, e_⟩ := Kd.R_slice H1.out; subst e_) | ((with_reducible refine gate_dst (N := 3) rfl ?_); refine Go.Proofs.YtieffcjbbhigbaaH.row_event _ 3 rfl (N := 3) rfl 74 22 .i64 parquetryref02_Table.L2 ?ho (by kernel_rfl) Try.underlying74 (by kernel_rfl) (by kernel_rfl) (by decide) (by decide) (Below.refl _ _) (Nat.le_refl _) ?_; (case ho => kernel_rfl); intro v w2 ho hb hg_ hnew_; clear hg_ hnew_; have H2 := Aside0.mk ho; have B2 := Aside0.mk hb; have S2 := Aside0.mk (below_size HB.out); have n1_ := Aside0.mk (below_step HB.out hb); clear HB; have HB := n1_; clear n1_ ho hb; obtain ⟨Ao6, co6, e_⟩ := Kd.R_slice H2.out; subst e_) | ((with_reducible refine gate_dst (N := 5) rfl ?_); refine Go.Proofs.YtieffcjbbhigbaaH.row_event _ 3 rfl (N := 5) rfl 74 18 .i64 parquetryref02_Table.L3 ?ho (by kernel_rfl) Try.underlying74 (by kernel_rfl) (by kernel_rfl) (by decide) (by decide) (Below.refl _ _) (Nat.le_refl _) ?_; (case ho => kernel_rfl); intro v w3 ho hb hg_ hnew_; clear hg_ hnew_; have H3 := Aside0.mk ho; have B3 := Aside0.mk hb; have S3 := Aside0.mk (below_size HB.out); have n1_ := Aside0.mk (below_step HB.out hb); clear HB; have HB := n1_; clear n1_ ho hb; obtain ⟨Ao9, co9, e_⟩ := Kd.R_slice H3.out; subst e_) | ((with_reducible refine gate_dst (N := 7) rfl ?_); refine Go.Proofs.YtieffcjbbhigbaaH.row_event _ 3 rfl (N := 7) rfl 74 18 .i64 parquetryref02_Table.L4 ?ho (by kernel_rfl) Try.underlying74 (by kernel_rfl) (by kernel_rfl) (by decide) (by decide) (Below.refl _ _) (Nat.le_refl _) ?_; (case ho => kernel_rfl); intro v w4 ho hb hg_ hnew_; clear hg_ hnew_; have H4 := Aside0.mk ho; have B4 := Aside0.mk hb; have S4 := Aside0.mk (below_size HB.out); have n1_ := Aside0.mk (below_step HB.out hb); clear HB; have HB := n1_; clear n1_ ho hb; obtain ⟨Ao12, co12, e_⟩ := Kd.R_slice H4.out; subst e_) | ((with_reducible refine gate_dst (N := 9) rfl ?_); refine Go.Proofs.YtieffcjbbhigbaaH.row_event _ 3 rfl (N := 9) rfl 74 28 .i64 parquetryref02_Table.L5 ?ho (by kernel_rfl) Try.underlying74 (by kernel_rfl) (by kernel_rfl) (by decide) (by decide) (Below.refl _ _) (Nat.le_refl _) ?_; (case ho => kernel_rfl); intro v w5 ho hb hg_ hnew_; clear hg_ hnew_; have H5 := Aside0.mk ho; have B5 := Aside0.mk hb; have S5 := Aside0.mk (below_size HB.out); have n1_ := Aside0.mk (below_step HB.out hb); clear HB; have HB := n1_; clear n1_ ho hb; obtain ⟨Ao15, co15, e_⟩ := Kd.R_slice H5.out; subst e_) | ((with_reducible refine gate_dst (N := 11) rfl ?_); refine Go.Proofs.YtieffcjbbhigbaaH.row_event _ 3 rfl (N := 11) rfl 74 10 .i64 parquetryref02_Table.L6 ?ho (by kernel_rfl) Try.underlying74 (by kernel_rfl) (by kernel_rfl) (by decide) (by decide) (Below.refl _ _) (Nat.le_refl _) ?_; (case ho => kernel_rfl); intro v w6 ho hb hg_ hnew_; clear hg_ hnew_; have H6 := Aside0.mk ho; have B6 := Aside0.mk hb; have S6 := Aside0.mk (below_size HB.out); have n1_ := Aside0.mk (below_step HB.out hb); clear HB; have HB := n1_; clear n1_ ho hb; obtain ⟨Ao18, co18, e_⟩ := Kd.R_slice H6.out; subst e_) | ((with_reducible refine gate_dst (N := 13) rfl ?_); refine Go.Proofs.YtieffcjbbhigbaaH.row_event _ 3 rfl (N := 13) rfl 74 26 .i64 parquetryref02_Table.L7 ?ho (by kernel_rfl) Try.underlying74 (by kernel_rfl) (by kernel_rfl) (by decide) (by decide) (Below.refl _ _) (Nat.le_refl _) ?_; (case ho => kernel_rfl); intro v w7 ho hb hg_ hnew_; clear hg_ hnew_; have H7 := Aside0.mk ho; have B7 := Aside0.mk hb; have S7 := Aside0.mk (below_size HB.out); have n1_ := Aside0.mk (below_step HB.out hb); clear HB; have HB := n1_; clear n1_ ho hb; obtain ⟨Ao21, co21, e_⟩ := Kd.R_slice H7.out; subst e_) | ((with_reducible refine gate_dst (N := 15) rfl ?_); refine Go.Proofs.YtieffcjbbhigbaaH.row_event _ 3 rfl (N := 15) rfl 74 48 .i64 parquetryref02_Table.L8 ?ho (by kernel_rfl) Try.underlying74 (by kernel_rfl) (by kernel_rfl) (by decide) (by decide) (Below.refl _ _) (Nat.le_refl _) ?_; (case ho => kernel_rfl); intro v w8 ho hb hg_ hnew_; clear hg_ hnew_; have H8 := Aside0.mk ho; have B8 := Aside0.mk hb; have S8 := Aside0.mk (below_size HB.out); have n1_ := Aside0.mk (below_step HB.out hb); clear HB; have HB := n1_; clear n1_ ho hb; obtain ⟨Ao24, co24, e_⟩ := Kd.R_slice H8.out; subst e_) | ((with_reducible refine gate_dst (N := 17) rfl ?_); refine Go.Proofs.YtieffcjbbhigbaaH.row_event _ 3 rfl (N := 17) rfl 74 18 .i64 parquetryref02_Table.L9 ?ho (by kernel_rfl) Try.underlying74 (by kernel_rfl) (by kernel_rfl) (by decide) (by decide) (Below.refl _ _) (Nat.le_refl _) ?_; (case ho => kernel_rfl); intro v w9 ho hb hg_ hnew_; clear hg_ hnew_; have H9 := Aside0.mk ho; have B9 := Aside0.mk hb; have S9 := Aside0.mk (below_size HB.out); have n1_ := Aside0.mk (below_step HB.out hb); clear HB; have HB := n1_; clear n1_ ho hb; obtain ⟨Ao27, co27, e_⟩ := Kd.R_slice H9.out; subst e_) | ((with_reducible refine gate_dst (N := 19) rfl ?_); refine Go.Proofs.YtieffcjbbhigbaaH.row_event _ 3 rfl (N := 19) rfl 74 10 .i64 parquetryref02_Table.L10 ?ho (by kernel_rfl) Try.underlying74 (by kernel_rfl) (by kernel_rfl) (by decide) (by decide) (Below.refl _ _) (Nat.le_refl _) ?_; (case ho => kernel_rfl); intro v w10 ho hb hg_ hnew_; clear hg_ hnew_; have H10 := Aside0.mk ho; have B10 := Aside0.mk hb; have S10 := Aside0.mk (below_size HB.out); have n1_ := Aside0.mk (below_step HB.out hb); clear HB; have HB := n1_; clear n1_ ho hb; obtain ⟨Ao30, co30, e_⟩ := Kd.R_slice H10.out; subst e_) | ((with_reducible refine gate_dst (N := 21) rfl ?_); refine Go.Proofs.YtieffcjbbhigbaaH.row_event _ 3 rfl (N := 21) rfl 74 6 .i64 parquetryref02_Table.L11 ?ho (by kernel_rfl) Try.underlying74 (by kernel_rfl) (by kernel_rfl) (by decide) (by decide) (Below.refl _ _) (Nat.le_refl _) ?_; (case ho => kernel_rfl); intro v w11 ho hb hg_ hnew_; clear hg_ hnew_; have H11 := Aside0.mk ho; have B11 := Aside0.mk hb; have S11 := Aside0.mk (below_size HB.out); have n1_ := Aside0.mk (below_step HB.out hb); clear HB; have HB := n1_; clear n1_ ho hb; obtain ⟨Ao33, co33, e_⟩ := Kd.R_slice H11.out; subst e_) | ((with_reducible refine gate_dst (N := 23) rfl ?_); refine Go.Proofs.YtieffcjbbhigbaaH.row_event _ 3 rfl (N := 23) rfl 74 14 .i64 parquetryref02_Table.L12 ?ho (by kernel_rfl) Try.underlying74 (by kernel_rfl) (by kernel_rfl) (by decide) (by decide) (Below.refl _ _) (Nat.le_refl _) ?_; (case ho => kernel_rfl); intro v w12 ho hb hg_ hnew_; clear hg_ hnew_; have H12 := Aside0.mk ho; have B12 := Aside0.mk hb; have S12 := Aside0.mk (below_size HB.out); have n1_ := Aside0.mk (below_step HB.out hb); clear HB; have HB := n1_; clear n1_ ho hb; obtain ⟨Ao36, co36, e_⟩ := Kd.R_slice H12.out; subst e_) | ((with_reducible refine gate_dst (N := 25) rfl ?_); refine Go.Proofs.YtieffcjbbhigbaaH.row_event _ 3 rfl (N := 25) rfl 74 76 .i64 parquetryref02_Table.L13 ?ho (by kernel_rfl) Try.underlying74 (by kernel_rfl) (by kernel_rfl) (by decide) (by decide) (Below.refl _ _) (Nat.le_refl _) ?_; (case ho => kernel_rfl); intro v w13 ho hb hg_ hnew_; clear hg_ hnew_; have H13 := Aside0.mk ho; have B13 := Aside0.mk hb; have S13 := Aside0.mk (below_size HB.out); have n1_ := Aside0.mk (below_step HB.out hb); clear HB; have HB := n1_; clear n1_ ho hb; obtain ⟨Ao39, co39, e_⟩ := Kd.R_slice H13.out; subst e_) | ((with_reducible refine gate_dst (N := 27) rfl ?_); refine Go.Proofs.YtieffcjbbhigbaaH.row_event _ 3 rfl (N := 27) rfl 74 2 .i64 parquetryref02_Table.L14 ?ho (by kernel_rfl) Try.underlying74 (by kernel_rfl) (by kernel_rfl) (by decide) (by decide) (Below.refl _ _) (Nat.le_refl _) ?_; (case ho => kernel_rfl); intro v w14 ho hb hg_ hnew_; clear hg_ hnew_; have H14 := Aside0.mk ho; have B14 := Aside0.mk hb; have S14 := Aside0.mk (below_size HB.out); have n1_ := Aside0.mk (below_step HB.out hb); clear HB; have HB := n1_; clear n1_ ho hb; obtain ⟨Ao42, co42, e_⟩ := Kd.R_slice H14.out; subst e_) | ((with_reducible refine gate_dst (N := 29) rfl ?_); refine Go.Proofs.YtieffcjbbhigbaaH.row_event _ 3 rfl (N := 29) rfl 74 2 .i64 parquetryref02_Table.L15 ?ho (by kernel_rfl) Try.underlying74 (by kernel_rfl) (by kernel_rfl) (by decide) (by decide) (Below.refl _ _) (Nat.le_refl _) ?_; (case ho => kernel_rfl); intro v w15 ho hb hg_ hnew_; clear hg_ hnew_; have H15 := Aside0.mk ho; have B15 := Aside0.mk hb; have S15 := Aside0.mk (below_size HB.out); have n1_ := Aside0.mk (below_step HB.out hb); clear HB; have HB := n1_; clear n1_ ho hb; obtain ⟨Ao45, co45, e_⟩ := Kd.R_slice H15.out; subst e_) | ((with_reducible refine gate_dst (N := 31) rfl ?_); refine Go.Proofs.YtieffcjbbhigbaaH.row_event _ 3 rfl (N := 31) rfl 74 2 .i64 parquetryref02_Table.L16 ?ho (by kernel_rfl) Try.underlying74 (by kernel_rfl) (by kernel_rfl) (by decide) (by decide) (Below.refl _ _) (Nat.le_refl _) ?_; (case ho => kernel_rfl); intro v w16 ho hb hg_ hnew_; clear hg_ hnew_; have H16 := Aside0.mk ho; have B16 := Aside0.mk hb; have S16 := Aside0.mk (below_size HB.out); have n1_ := Aside0.mk (below_step HB.out hb); clear HB; have HB := n1_; clear n1_ ho hb; obtain ⟨Ao48, co48, e_⟩ := Kd.R_slice H16.out; subst e_) | ((with_reducible refine gate_dst (N := 33) rfl ?_); refine Go.Proofs.YtieffcjbbhigbaaH.row_event _ 3 rfl (N := 33) rfl 74 2 .i64 parquetryref02_Table.L17 ?ho (by kernel_rfl) Try.underlying74 (by kernel_rfl) (by kernel_rfl) (by decide) (by decide) (Below.refl _ _) (Nat.le_refl _) ?_; (case ho => kernel_rfl); intro v w17 ho hb hg_ hnew_; clear hg_ hnew_; have H17 := Aside0.mk ho; have B17 := Aside0.mk hb; have S17 := Aside0.mk (below_size HB.out); have n1_ := Aside0.mk (below_step HB.out hb); clear HB; have HB := n1_; clear n1_ ho hb; obtain ⟨Ao51, co51, e_⟩ := Kd.R_slice H17.out; subst e_) | ((with_reducible refine gate_dst (N := 35) rfl ?_); refine Go.Proofs.YtieffcjbbhigbaaH.row_event _ 3 rfl (N := 35) rfl 74 2 .i64 parquetryref02_Table.L18 ?ho (by kernel_rfl) Try.underlying74 (by kernel_rfl) (by kernel_rfl) (by decide) (by decide) (Below.refl _ _) (Nat.le_refl _) ?_; (case ho => kernel_rfl); intro v w18 ho hb hg_ hnew_; clear hg_ hnew_; have H18 := Aside0.mk ho; have B18 := Aside0.mk hb; have S18 := Aside0.mk (below_size HB.out); have n1_ := Aside0.mk (below_step HB.out hb); clear HB; have HB := n1_; clear n1_ ho hb; obtain ⟨Ao54, co54, e_⟩ := Kd.R_slice H18.out; subst e_) | ((with_reducible refine gate_dst (N := 37) rfl ?_); refine Go.Proofs.YtieffcjbbhigbaaH.row_event _ 3 rfl (N := 37) rfl 74 2 .i64 parquetryref02_Table.L19 ?ho (by kernel_rfl) Try.underlying74 (by kernel_rfl) (by kernel_rfl) (by decide) (by decide) (Below.refl _ _) (Nat.le_refl _) ?_; (case ho => kernel_rfl); intro v w19 ho hb hg_ hnew_; clear hg_ hnew_; have H19 := Aside0.mk ho; have B19 := Aside0.mk hb; have S19 := Aside0.mk (below_size HB.out); have n1_ := Aside0.mk (below_step HB.out hb); clear HB; have HB := n1_; clear n1_ ho hb; obtain ⟨Ao57, co57, e_⟩ := Kd.R_slice H19.out; subst e_) | ((with_reducible refine gate_dst (N := 39) rfl ?_); refine Go.Proofs.YtieffcjbbhigbaaH.row_event _ 3 rfl (N := 39) rfl 74 2 .i64 parquetryref02_Table.L20 ?ho (by kernel_rfl) Try.underlying74 (by kernel_rfl) (by kernel_rfl) (by decide) (by decide) (Below.refl _ _) (Nat.le_refl _) ?_; (case ho => kernel_rfl); intro v w20 ho hb hg_ hnew_; clear hg_ hnew_; have H20 := Aside0.mk ho; have B20 := Aside0.mk hb; have S20 := Aside0.mk (below_size HB.out); have n1_ := Aside0.mk (below_step HB.out hb); clear HB; have HB := n1_; clear n1_ ho hb; obtain ⟨Ao60, co60, e_⟩ := Kd.R_slice H20.out; subst e_) | ((with_reducible refine gate_dst (N := 41) rfl ?_); refine Go.Proofs.YtieffcjbbhigbaaH.row_event _ 3 rfl (N := 41) rfl 74 2 .i64 parquetryref02_Table.L21 ?ho (by kernel_rfl) Try.underlying74 (by kernel_rfl) (by kernel_rfl) (by decide) (by decide) (Below.refl _ _) (Nat.le_refl _) ?_; (case ho => kernel_rfl); intro v w21 ho hb hg_ hnew_; clear hg_ hnew_; have H21 := Aside0.mk ho; have B21 := Aside0.mk hb; have S21 := Aside0.mk (below_size HB.out); have n1_ := Aside0.mk (below_step HB.out hb); clear HB; have HB := n1_; clear n1_ ho hb; obtain ⟨Ao63, co63, e_⟩ := Kd.R_slice H21.out; subst e_) | ((with_reducible refine gate_dst (N := 43) rfl ?_); refine Go.Proofs.YtieffcjbbhigbaaH.row_event _ 3 rfl (N := 43) rfl 74 2 .i64 parquetryref02_Table.L22 ?ho (by kernel_rfl) Try.underlying74 (by kernel_rfl) (by kernel_rfl) (by decide) (by decide) (Below.refl _ _) (Nat.le_refl _) ?_; (case ho => kernel_rfl); intro v w22 ho hb hg_ hnew_; clear hg_ hnew_; have H22 := Aside0.mk ho; have B22 := Aside0.mk hb; have S22 := Aside0.mk (below_size HB.out); have n1_ := Aside0.mk (below_step HB.out hb); clear HB; have HB := n1_; clear n1_ ho hb; obtain ⟨Ao66, co66, e_⟩ := Kd.R_slice H22.out; subst e_; have T22 := Aside0.mk (Below.refl w22.heap.size w22); have T21 := Aside0.mk (below_step B22.out T22.out); have T20 := Aside0.mk (below_step B21.out T21.out); have T19 := Aside0.mk (below_step B20.out T20.out); have T18 := Aside0.mk (below_step B19.out T19.out); have T17 := Aside0.mk (below_step B18.out T18.out); have T16 := Aside0.mk (below_step B17.out T17.out); have T15 := Aside0.mk (below_step B16.out T16.out); have T14 := Aside0.mk (below_step B15.out T15.out); have T13 := Aside0.mk (below_step B14.out T14.out); have T12 := Aside0.mk (below_step B13.out T13.out); have T11 := Aside0.mk (below_step B12.out T12.out); have T10 := Aside0.mk (below_step B11.out T11.out); have T9 := Aside0.mk (below_step B10.out T10.out); have T8 := Aside0.mk (below_step B9.out T9.out); have T7 := Aside0.mk (below_step B8.out T8.out); have T6 := Aside0.mk (below_step B7.out T7.out); have T5 := Aside0.mk (below_step B6.out T6.out); have T4 := Aside0.mk (below_step B5.out T5.out); have T3 := Aside0.mk (below_step B4.out T4.out); have T2 := Aside0.mk (below_step B3.out T3.out); have T1 := Aside0.mk (below_step B2.out T2.out); have X1 := Aside0.mk (parquetryref02_Table.up H1.out S1.out T1.out); have X2 := Aside0.mk (parquetryref02_Table.up H2.out S2.out T2.out); have X3 := Aside0.mk (parquetryref02_Table.up H3.out S3.out T3.out); have X4 := Aside0.mk (parquetryref02_Table.up H4.out S4.out T4.out); have X5 := Aside0.mk (parquetryref02_Table.up H5.out S5.out T5.out); have X6 := Aside0.mk (parquetryref02_Table.up H6.out S6.out T6.out); have X7 := Aside0.mk (parquetryref02_Table.up H7.out S7.out T7.out); have X8 := Aside0.mk (parquetryref02_Table.up H8.out S8.out T8.out); have X9 := Aside0.mk (parquetryref02_Table.up H9.out S9.out T9.out); have X10 := Aside0.mk (parquetryref02_Table.up H10.out S10.out T10.out); have X11 := Aside0.mk (parquetryref02_Table.up H11.out S11.out T11.out); have X12 := Aside0.mk (parquetryref02_Table.up H12.out S12.out T12.out); have X13 := Aside0.mk (parquetryref02_Table.up H13.out S13.out T13.out); have X14 := Aside0.mk (parquetryref02_Table.up H14.out S14.out T14.out); have X15 := Aside0.mk (parquetryref02_Table.up H15.out S15.out T15.out); have X16 := Aside0.mk (parquetryref02_Table.up H16.out S16.out T16.out); have X17 := Aside0.mk (parquetryref02_Table.up H17.out S17.out T17.out); have X18 := Aside0.mk (parquetryref02_Table.up H18.out S18.out T18.out); have X19 := Aside0.mk (parquetryref02_Table.up H19.out S19.out T19.out); have X20 := Aside0.mk (parquetryref02_Table.up H20.out S20.out T20.out); have X21 := Aside0.mk (parquetryref02_Table.up H21.out S21.out T21.out); have X22 := Aside0.mk (parquetryref02_Table.up H22.out S22.out T22.out)) | ((with_reducible refine gate_dst (N := 45) rfl ?_); refine Kd.N_lit k76 _ 76 ?hg (N' := 45) ?hd (xs := ([(⟨1, parquetryref02_Table.L1⟩ : S76), (⟨2, parquetryref02_Table.L2⟩ : S76), (⟨3, parquetryref02_Table.L3⟩ : S76), (⟨4, parquetryref02_Table.L4⟩ : S76), (⟨5, parquetryref02_Table.L5⟩ : S76), (⟨6, parquetryref02_Table.L6⟩ : S76), (⟨7, parquetryref02_Table.L7⟩ : S76), (⟨8, parquetryref02_Table.L8⟩ : S76), (⟨9, parquetryref02_Table.L9⟩ : S76), (⟨10, parquetryref02_Table.L10⟩ : S76), (⟨11, parquetryref02_Table.L11⟩ : S76), (⟨12, parquetryref02_Table.L12⟩ : S76), (⟨13, parquetryref02_Table.L13⟩ : S76), (⟨14, parquetryref02_Table.L14⟩ : S76), (⟨16, parquetryref02_Table.L15⟩ : S76), (⟨18, parquetryref02_Table.L16⟩ : S76), (⟨15, parquetryref02_Table.L17⟩ : S76), (⟨17, parquetryref02_Table.L18⟩ : S76), (⟨19, parquetryref02_Table.L19⟩ : S76), (⟨20, parquetryref02_Table.L20⟩ : S76), (⟨21, parquetryref02_Table.L21⟩ : S76), (⟨22, parquetryref02_Table.L22⟩ : S76)] : List (S76))) (inner := [.int .i64 1, .slice Ao3 parquetryref02_Table.L1.length co3, .int .i64 2, .slice Ao6 parquetryref02_Table.L2.length co6, .int .i64 3, .slice Ao9 parquetryref02_Table.L3.length co9, .int .i64 4, .slice Ao12 parquetryref02_Table.L4.length co12, .int .i64 5, .slice Ao15 parquetryref02_Table.L5.length co15, .int .i64 6, .slice Ao18 parquetryref02_Table.L6.length co18, .int .i64 7, .slice Ao21 parquetryref02_Table.L7.length co21, .int .i64 8, .slice Ao24 parquetryref02_Table.L8.length co24, .int .i64 9, .slice Ao27 parquetryref02_Table.L9.length co27, .int .i64 10, .slice Ao30 parquetryref02_Table.L10.length co30, .int .i64 11, .slice Ao33 parquetryref02_Table.L11.length co33, .int .i64 12, .slice Ao36 parquetryref02_Table.L12.length co36, .int .i64 13, .slice Ao39 parquetryref02_Table.L13.length co39, .int .i64 14, .slice Ao42 parquetryref02_Table.L14.length co42, .int .i64 16, .slice Ao45 parquetryref02_Table.L15.length co45, .int .i64 18, .slice Ao48 parquetryref02_Table.L16.length co48, .int .i64 15, .slice Ao51 parquetryref02_Table.L17.length co51, .int .i64 17, .slice Ao54 parquetryref02_Table.L18.length co54, .int .i64 19, .slice Ao57 parquetryref02_Table.L19.length co57, .int .i64 20, .slice Ao60 parquetryref02_Table.L20.length co60, .int .i64 21, .slice Ao63 parquetryref02_Table.L21.length co63, .int .i64 22, .slice Ao66 parquetryref02_Table.L22.length co66]) (ok := (fun k_ => (w.heap.size ≤ k_))) (okp := (fun k_ => (w.heap.size ≤ k_))) ?hr ?hp (fun _ hk => hk) ((show ∀ k_, w22.heap.size ≤ k_ → (fun k_ => (w.heap.size ≤ k_)) k_ from fun k_ hk => (Nat.le_trans (below_size HB.out) hk)) _ (Nat.le_refl _)) (Below.refl _ _) (Nat.le_refl _) (by simp) ?_; (case hd => rfl); (case hg => rfl); (case hr => first | (go_simp; done) | (go_simp; rfl)); (case hp => exact (Reps.c2 (show Kd.FK k76 _ _ (⟨1, parquetryref02_Table.L1⟩ : S76) [.int .i64 1, .slice Ao3 parquetryref02_Table.L1.length co3] from (k76_mkF _ _ (⟨1, parquetryref02_Table.L1⟩ : S76) (Kd.R_reads' X1.out).2.1 (Kd.R_F X1.out))) (Reps.c2 (show Kd.FK k76 _ _ (⟨2, parquetryref02_Table.L2⟩ : S76) [.int .i64 2, .slice Ao6 parquetryref02_Table.L2.length co6] from (k76_mkF _ _ (⟨2, parquetryref02_Table.L2⟩ : S76) (Kd.R_reads' X2.out).2.1 (Kd.R_F X2.out))) (Reps.c2 (show Kd.FK k76 _ _ (⟨3, parquetryref02_Table.L3⟩ : S76) [.int .i64 3, .slice Ao9 parquetryref02_Table.L3.length co9] from (k76_mkF _ _ (⟨3, parquetryref02_Table.L3⟩ : S76) (Kd.R_reads' X3.out).2.1 (Kd.R_F X3.out))) (Reps.c2 (show Kd.FK k76 _ _ (⟨4, parquetryref02_Table.L4⟩ : S76) [.int .i64 4, .slice Ao12 parquetryref02_Table.L4.length co12] from (k76_mkF _ _ (⟨4, parquetryref02_Table.L4⟩ : S76) (Kd.R_reads' X4.out).2.1 (Kd.R_F X4.out))) (Reps.c2 (show Kd.FK k76 _ _ (⟨5, parquetryref02_Table.L5⟩ : S76) [.int .i64 5, .slice Ao15 parquetryref02_Table.L5.length co15] from (k76_mkF _ _ (⟨5, parquetryref02_Table.L5⟩ : S76) (Kd.R_reads' X5.out).2.1 (Kd.R_F X5.out))) (Reps.c2 (show Kd.FK k76 _ _ (⟨6, parquetryref02_Table.L6⟩ : S76) [.int .i64 6, .slice Ao18 parquetryref02_Table.L6.length co18] from (k76_mkF _ _ (⟨6, parquetryref02_Table.L6⟩ : S76) (Kd.R_reads' X6.out).2.1 (Kd.R_F X6.out))) (Reps.c2 (show Kd.FK k76 _ _ (⟨7, parquetryref02_Table.L7⟩ : S76) [.int .i64 7, .slice Ao21 parquetryref02_Table.L7.length co21] from (k76_mkF _ _ (⟨7, parquetryref02_Table.L7⟩ : S76) (Kd.R_reads' X7.out).2.1 (Kd.R_F X7.out))) (Reps.c2 (show Kd.FK k76 _ _ (⟨8, parquetryref02_Table.L8⟩ : S76) [.int .i64 8, .slice Ao24 parquetryref02_Table.L8.length co24] from (k76_mkF _ _ (⟨8, parquetryref02_Table.L8⟩ : S76) (Kd.R_reads' X8.out).2.1 (Kd.R_F X8.out))) (Reps.c2 (show Kd.FK k76 _ _ (⟨9, parquetryref02_Table.L9⟩ : S76) [.int .i64 9, .slice Ao27 parquetryref02_Table.L9.length co27] from (k76_mkF _ _ (⟨9, parquetryref02_Table.L9⟩ : S76) (Kd.R_reads' X9.out).2.1 (Kd.R_F X9.out))) (Reps.c2 (show Kd.FK k76 _ _ (⟨10, parquetryref02_Table.L10⟩ : S76) [.int .i64 10, .slice Ao30 parquetryref02_Table.L10.length co30] from (k76_mkF _ _ (⟨10, parquetryref02_Table.L10⟩ : S76) (Kd.R_reads' X10.out).2.1 (Kd.R_F X10.out))) (Reps.c2 (show Kd.FK k76 _ _ (⟨11, parquetryref02_Table.L11⟩ : S76) [.int .i64 11, .slice Ao33 parquetryref02_Table.L11.length co33] from (k76_mkF _ _ (⟨11, parquetryref02_Table.L11⟩ : S76) (Kd.R_reads' X11.out).2.1 (Kd.R_F X11.out))) (Reps.c2 (show Kd.FK k76 _ _ (⟨12, parquetryref02_Table.L12⟩ : S76) [.int .i64 12, .slice Ao36 parquetryref02_Table.L12.length co36] from (k76_mkF _ _ (⟨12, parquetryref02_Table.L12⟩ : S76) (Kd.R_reads' X12.out).2.1 (Kd.R_F X12.out))) (Reps.c2 (show Kd.FK k76 _ _ (⟨13, parquetryref02_Table.L13⟩ : S76) [.int .i64 13, .slice Ao39 parquetryref02_Table.L13.length co39] from (k76_mkF _ _ (⟨13, parquetryref02_Table.L13⟩ : S76) (Kd.R_reads' X13.out).2.1 (Kd.R_F X13.out))) (Reps.c2 (show Kd.FK k76 _ _ (⟨14, parquetryref02_Table.L14⟩ : S76) [.int .i64 14, .slice Ao42 parquetryref02_Table.L14.length co42] from (k76_mkF _ _ (⟨14, parquetryref02_Table.L14⟩ : S76) (Kd.R_reads' X14.out).2.1 (Kd.R_F X14.out))) (Reps.c2 (show Kd.FK k76 _ _ (⟨16, parquetryref02_Table.L15⟩ : S76) [.int .i64 16, .slice Ao45 parquetryref02_Table.L15.length co45] from (k76_mkF _ _ (⟨16, parquetryref02_Table.L15⟩ : S76) (Kd.R_reads' X15.out).2.1 (Kd.R_F X15.out))) (Reps.c2 (show Kd.FK k76 _ _ (⟨18, parquetryref02_Table.L16⟩ : S76) [.int .i64 18, .slice Ao48 parquetryref02_Table.L16.length co48] from (k76_mkF _ _ (⟨18, parquetryref02_Table.L16⟩ : S76) (Kd.R_reads' X16.out).2.1 (Kd.R_F X16.out))) (Reps.c2 (show Kd.FK k76 _ _ (⟨15, parquetryref02_Table.L17⟩ : S76) [.int .i64 15, .slice Ao51 parquetryref02_Table.L17.length co51] from (k76_mkF _ _ (⟨15, parquetryref02_Table.L17⟩ : S76) (Kd.R_reads' X17.out).2.1 (Kd.R_F X17.out))) (Reps.c2 (show Kd.FK k76 _ _ (⟨17, parquetryref02_Table.L18⟩ : S76) [.int .i64 17, .slice Ao54 parquetryref02_Table.L18.length co54] from (k76_mkF _ _ (⟨17, parquetryref02_Table.L18⟩ : S76) (Kd.R_reads' X18.out).2.1 (Kd.R_F X18.out))) (Reps.c2 (show Kd.FK k76 _ _ (⟨19, parquetryref02_Table.L19⟩ : S76) [.int .i64 19, .slice Ao57 parquetryref02_Table.L19.length co57] from (k76_mkF _ _ (⟨19, parquetryref02_Table.L19⟩ : S76) (Kd.R_reads' X19.out).2.1 (Kd.R_F X19.out))) (Reps.c2 (show Kd.FK k76 _ _ (⟨20, parquetryref02_Table.L20⟩ : S76) [.int .i64 20, .slice Ao60 parquetryref02_Table.L20.length co60] from (k76_mkF _ _ (⟨20, parquetryref02_Table.L20⟩ : S76) (Kd.R_reads' X20.out).2.1 (Kd.R_F X20.out))) (Reps.c2 (show Kd.FK k76 _ _ (⟨21, parquetryref02_Table.L21⟩ : S76) [.int .i64 21, .slice Ao63 parquetryref02_Table.L21.length co63] from (k76_mkF _ _ (⟨21, parquetryref02_Table.L21⟩ : S76) (Kd.R_reads' X21.out).2.1 (Kd.R_F X21.out))) (Reps.c2 (show Kd.FK k76 _ _ (⟨22, parquetryref02_Table.L22⟩ : S76) [.int .i64 22, .slice Ao66 parquetryref02_Table.L22.length co66] from (k76_mkF _ _ (⟨22, parquetryref02_Table.L22⟩ : S76) (Kd.R_reads' X22.out).2.1 (Kd.R_F X22.out))) (Reps.none _ _)))))))))))))))))))))))); intro v267 w67 ho68 hb hg_ hnew_; clear hg_ hnew_; (first | rw [← Ny266.out] at ho68 | (simp only [Int.reduceToNat] at ho68; rw [← Ny266.out] at ho68)); have n0_ := Aside0.mk (Kd.N_lower ho68 (below_size HB.out)); have n1_ := Aside0.mk (below_step HB.out hb); clear HB; have HO268 := n0_; have HB := n1_; clear n0_ n1_; clear hb ho68))
 go_ret
 exact ⟨_, by first | rfl | (simp [errW_none, errW_some] <;> rfl) | (simp [*, errW_none, errW_some] <;> rfl), by (with_reducible repeat (first | apply Kd.N_alloc | apply Kd.N_drewN | apply Kd.N_drew)); exact HO268.out, by repeat (first | (with_reducible first | exact HB.out | apply below_alloc | apply pw_below_drewN | apply below_drew1) | exact HB.out)⟩


end Go.Proofs.Ytieffcjbbhigbaa.PC17
