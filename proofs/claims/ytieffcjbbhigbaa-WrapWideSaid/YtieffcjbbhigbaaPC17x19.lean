/- For the laws of the group C17: the Lean functions that the Go functions compute, and proofs that they do. Written by wip/hprint.py of this repo over the kit's printer; nothing here is trusted: Lean checks it. -/
import Derived.Test.YtieffcjbbhigbaaPC17x0
import Derived.Test.YtieffcjbbhigbaaPC17x3
import Derived.Test.YtieffcjbbhigbaaPC17x4
import Derived.Test.YtieffcjbbhigbaaPC17x10
import Derived.Test.YtieffcjbbhigbaaPC17x13
namespace Go.Proofs.Ytieffcjbbhigbaa.PC17
open Go.RowKit Go.Proofs.YtieffcjbbhigbaaW.PrintWords Go.Proofs.YtieffcjbbhigbaaW.PrintLast Go.Proofs.YtieffcjbbhigbaaW.PrintMore
attribute [local go_sem] max2_int min2_int max_two min_two max_three min_three max_four min_four   -- for this text's walks alone
set_option linter.unusedVariables false
set_option linter.unusedSimpArgs false

/-! ### parquetrylaw17_WrapWide: function 9: by hand -/
section
open Go.Proofs.YtieffcjbbhigbaaH
/-- A cut of a row that came in. -/
theorem parquetrylaw17_WrapWide.cut {w : World} {A : Option Addr} {c : Nat} {l : List S39} (HR : Kd.C k39 w A l.length l) (hc : l.length ≤ c) (lo hi : Int) (q0 : 0 ≤ lo) (q1 : lo ≤ hi) (q2 : hi ≤ (l.length : Int)) : ∃ (A2 : Option Addr) (c2 : Nat),
  (∀ W, (Instr.slice 22 (.slice A l.length c) (some (.int .i64 lo)) (some (.int .i64 hi)) none).run Try.prog W = .ok (.slice A2 ((l.take hi.toNat).drop lo.toNat).length c2) W) ∧ Kd.C k39 w A2 ((l.take hi.toNat).drop lo.toNat).length ((l.take hi.toNat).drop lo.toNat) ∧ ((l.take hi.toNat).drop lo.toNat).length ≤ c2 := by
 obtain ⟨i0, hi0, _, hsz, _⟩ := info_parts info39
 have hcut := cut_mid (P := Try.prog) 22 39 .i64 .i64 Try.underlying22 hi0 6 hsz A l.length c lo hi q0 q1 q2 hc
 have hmid := Kd.C_mid (lo := lo.toNat) (hi := hi.toNat) (c := c) HR (by omega) (by omega) hc
 have hml : ((l.take hi.toNat).drop lo.toNat).length = hi.toNat - lo.toNat := by rw [List.length_drop, List.length_take]; omega
 rw [← hml] at hcut
 exact ⟨_, _, hcut, hmid, by rw [hml]; omega⟩
theorem parquetrylaw17_WrapWide.cutT {w : World} {A : Option Addr} {c : Nat} {l : List S39} (HR : Kd.C k39 w A l.length l) (hc : l.length ≤ c) (n : Int) (q0 : 0 ≤ n) (q1 : n ≤ (l.length : Int)) :
  (∀ W, (Instr.slice 22 (.slice A l.length c) none (some (.int .i64 n)) none).run Try.prog W = .ok (.slice A (l.take n.toNat).length c) W) ∧ Kd.C k39 w A (l.take n.toNat).length (l.take n.toNat) ∧ (l.take n.toNat).length ≤ c := by
 obtain ⟨i0, hi0, _, hsz, _⟩ := info_parts info39
 have hcut := cut_to (P := Try.prog) 22 39 .i64 Try.underlying22 hi0 A l.length c n q0 q1 hc
 have hl : n.toNat = (l.take n.toNat).length := by rw [List.length_take]; omega
 refine ⟨fun W => ?_, Kd.C_take HR (by omega), by rw [← hl]; omega⟩
 rw [← hl]
 exact hcut W
/-- The end of a word. -/
def parquetrylaw17_WrapWide.we : Nat → List S39 → Int → Int → Option Int
 | 0, _, _, _ => none
 | k + 1, l, n, e => if e < n then (if 0 ≤ e ∧ e < (l.length : Int) then (if (rd_T39 l e).f5 == 32 then some e else parquetrylaw17_WrapWide.we k l n (e + 1)) else none) else some e
/-- The lines, one by one. -/
def parquetrylaw17_WrapWide.wl : Nat → List S39 → Int → List S29 → Int → Int → Option Bool
 | 0, _, _, _, _, _ => none
 | k + 1, l, wd, x, n, i => if i < (x.length : Int) then (if 0 ≤ i ∧ 0 ≤ (rd_T29 x i).f0 ∧ (rd_T29 x i).f0 ≤ (rd_T29 x i).f2 ∧ (rd_T29 x i).f2 ≤ (l.length : Int) ∧ (rd_T29 x i).f1 ≤ (l.length : Int) ∧ 0 ≤ (rd_T29 x i).f1 then
   (parquetryref17_More.f k ((l.take (rd_T29 x i).f2.toNat).drop (rd_T29 x i).f0.toNat) wd).bind fun m => if m = false ∨ (rd_T29 x i).f2 = (rd_T29 x i).f0 + 1 then (if i + 1 = (x.length : Int) then parquetrylaw17_awake.f k else
    (parquetrylaw17_WrapWide.we k l n ((rd_T29 x i).f1 + 1)).bind fun e => if e ≤ n ∧ (rd_T29 x i).f0 ≤ e ∧ e ≤ (l.length : Int) then (parquetryref17_More.f k ((l.take e.toNat).drop (rd_T29 x i).f0.toNat) wd).bind fun q => if q = true then parquetrylaw17_WrapWide.wl k l wd x n (i + 1) else none else none) else none else none) else parquetrylaw17_awake.f k
def parquetrylaw17_WrapWide.f (k : Nat) (l0 : List S39) (a1 : Int) : Option Bool := if (l0.length : Int) > 200 ∨ a1 < 1 then parquetrylaw17_awake.f k else (wrap_Lines.f k l0 a1 1).bind fun x => (wrap_Shown.f l0).bind fun n => if 0 ≤ n ∧ n ≤ (l0.length : Int) ∧ x.length < 1000000 then (parquetryref17_More.f k (l0.take n.toNat) a1).bind fun m => if m = true ∨ x.length = 1 then parquetrylaw17_WrapWide.wl k l0 a1 x n 0 else none else none
theorem parquetrylaw17_WrapWide.we_mono : ∀ (k : Nat) (l : List S39) (n e : Int), LeO (parquetrylaw17_WrapWide.we k l n e) (parquetrylaw17_WrapWide.we (k + 1) l n e)
 | 0, _, _, _ => LeO.none _
 | k + 1, l, n, e => LeO.ite (LeO.ite (LeO.ite (LeO.refl _) (parquetrylaw17_WrapWide.we_mono k l n (e + 1))) (LeO.none _)) (LeO.refl _)
theorem parquetrylaw17_WrapWide.wl_mono : ∀ (k : Nat) (l : List S39) (wd : Int) (x : List S29) (n i : Int), LeO (parquetrylaw17_WrapWide.wl k l wd x n i) (parquetrylaw17_WrapWide.wl (k + 1) l wd x n i)
 | 0, _, _, _, _, _ => LeO.none _
 | k + 1, l, wd, x, n, i => LeO.ite (LeO.ite (LeO.bind (parquetryref17_More.mono _ _ _) (fun m => LeO.ite (LeO.ite (parquetrylaw17_awake.mono _) (LeO.bind (parquetrylaw17_WrapWide.we_mono _ _ _ _) (fun e => LeO.ite (LeO.bind (parquetryref17_More.mono _ _ _) (fun q => LeO.ite (parquetrylaw17_WrapWide.wl_mono k l wd x n (i + 1)) (LeO.none _))) (LeO.none _)))) (LeO.none _))) (LeO.none _)) (parquetrylaw17_awake.mono _)
theorem parquetrylaw17_WrapWide.mono : ∀ a0 a1 k, LeO (parquetrylaw17_WrapWide.f k a0 a1) (parquetrylaw17_WrapWide.f (k + 1) a0 a1) := by
 intro a0 a1 k
 unfold parquetrylaw17_WrapWide.f
 exact LeO.ite (parquetrylaw17_awake.mono _) (LeO.bind (wrap_Lines.mono _ _ _ _) (fun x => LeO.bind (LeO.refl _) (fun n => LeO.ite (LeO.bind (parquetryref17_More.mono _ _ _) (fun m => LeO.ite (parquetrylaw17_WrapWide.wl_mono _ _ _ _ _ _) (LeO.none _))) (LeO.none _))))
set_option maxHeartbeats 8000000 in
set_option maxRecDepth 100000 in
theorem parquetrylaw17_WrapWide.calls (k : Nat) (A0 : Option Addr) (c0 : Nat) (l0 : List S39) (a1 : Int) (r : Bool) (w : World) (hr0 : Kd.C k39 w A0 l0.length l0) (hc0 : l0.length ≤ c0) (h : parquetrylaw17_WrapWide.f k l0 a1 = some r) :
  Calls Try.prog 9 #[.slice A0 l0.length c0, .int .i64 a1] w fun e w' => e = .returned (.bool r) ∧ Below w.heap.size w w' := by
 have hu29 := Try.underlying29
 have HR := Aside0.mk hr0
 have HC := Aside0.mk hc0
 have HB := Aside0.mk (Below.refl w.heap.size w)
 unfold parquetrylaw17_WrapWide.f at h
 go_enter Try.func9, Try.ntmps9
 by_cases c1 : (l0.length : Int) > 200 ∨ a1 < 1
 ·
  rw [if_pos c1] at h
  have HA := Aside0.mk h
  clear h
  by_cases c2 : (l0.length : Int) > 200
  ·
   have g0 : decide (200 < (l0.length : Int)) = true := decide_eq_true c2
   clear c1 c2
   go_wp2_with (go_at_call 17; refine (parquetrylaw17_awake.calls k r _ HA.out).mono ?_; rintro e w1 ⟨rfl, hb⟩; have n0_ := Aside0.mk (below_step HB.out hb); clear HB hb; have HB := n0_; clear n0_)
   go_ret
   exact ⟨rfl, HB.out⟩
  ·
   have g0 : decide (200 < (l0.length : Int)) = false := decide_eq_false c2
   have g1 : decide (a1 < 1) = true := decide_eq_true (c1.resolve_left c2)
   clear c1 c2
   go_wp2_with (go_at_call 17; refine (parquetrylaw17_awake.calls k r _ HA.out).mono ?_; rintro e w1 ⟨rfl, hb⟩; have n0_ := Aside0.mk (below_step HB.out hb); clear HB hb; have HB := n0_; clear n0_)
   go_ret
   exact ⟨rfl, HB.out⟩
 rw [if_neg c1] at h
 have g0 : decide (200 < (l0.length : Int)) = false := decide_eq_false (fun h => c1 (.inl h))
 have g1 : decide (a1 < 1) = false := decide_eq_false (fun h => c1 (.inr h))
 have n3 : (l0.length : Int) ≤ 200 := Int.not_lt.1 (fun h => c1 (.inl h))
 clear c1
 obtain ⟨x, hx, h⟩ := Option.bind_eq_some_iff.1 h
 obtain ⟨n, hn, h⟩ := Option.bind_eq_some_iff.1 h
 by_cases c2 : 0 ≤ n ∧ n ≤ (l0.length : Int) ∧ x.length < 1000000
 case neg =>
  rw [if_neg c2] at h
  cases h
 rw [if_pos c2] at h
 obtain ⟨m, hm, h⟩ := Option.bind_eq_some_iff.1 h
 by_cases c3 : m = true ∨ x.length = 1
 case neg =>
  rw [if_neg c3] at h
  cases h
 rw [if_pos c3] at h
 obtain ⟨hcut, hct, hcl⟩ := parquetrylaw17_WrapWide.cutT hr0 hc0 n c2.1 c2.2.1
 have HX := Aside0.mk hx
 have HN := Aside0.mk hn
 have HM := Aside0.mk hm
 have HT := Aside0.mk hct
 have HTC := Aside0.mk hcl
 have H := Aside0.mk h
 have n0 : 0 ≤ n := c2.1
 have n1 : n ≤ (l0.length : Int) := c2.2.1
 have n2 : (x.length : Int) < 1000000 := by omega
 have g2 : decide (n < 0) = false := decide_eq_false (by omega)
 have g3 : decide ((l0.length : Int) < n) = false := decide_eq_false (by omega)
 clear hx hn hm hct hcl h c2 hr0 hc0
 generalize (l0.take n.toNat) = lt at hcut HM HT HTC
 have g4 : m = true ∨ (m = false ∧ ((x.length : Int) != 1) = false) := by
  cases m
  ·
   rcases c3 with h | h
   ·
    cases h
   ·
    exact .inr ⟨rfl, by simp [h]⟩
  ·
   exact .inl rfl
 clear c3
 rcases g4 with rfl | ⟨rfl, g4⟩
 all_goals
  go_wp2_with (first | (go_at_call 26; refine (wrap_Lines.calls k _ _ l0 a1 1 x _ HR.out HC.out HX.out).mono ?_; rintro e w1 ⟨v1, rfl, ho, hb⟩; have n0_ := Aside0.mk (below_step HB.out hb); clear HB hb; have HB := n0_; clear n0_; obtain ⟨Ax, cx, e1_, hxl, hxr⟩ := Kd.R_reads ho; subst e1_; have HRX := Aside0.mk hxr; clear ho hxr hxl) | (go_at_call 22; refine (wrap_Shown.calls _ _ l0 n _ (Kd.C_below HR.out HB.out) HC.out HN.out).mono ?_; rintro e w2 ⟨rfl, hb⟩; have n1_ := Aside0.mk (Kd.C_below HRX.out hb); clear HRX; have HRX := n1_; clear n1_; have n0_ := Aside0.mk (below_step HB.out hb); clear HB hb; have HB := n0_; clear n0_) | (go_at_call 16; refine (parquetryref17_More.calls k _ _ lt a1 _ _ (Kd.C_below HT.out HB.out) HTC.out HM.out).mono ?_; rintro e w3 ⟨rfl, hb⟩; have n1_ := Aside0.mk (Kd.C_below HRX.out hb); clear HRX; have HRX := n1_; clear n1_; have n0_ := Aside0.mk (below_step HB.out hb); clear HB hb; have HB := n0_; clear n0_))
  clear hcut HT HTC HM
  go_loopg [7] k (fun kq s7 wr => ∃ i : Int, s7 = .int .i64 i ∧ 0 ≤ i ∧ i ≤ 1000000 ∧ Aside0 (parquetrylaw17_WrapWide.wl kq l0 a1 x n i = some r) ∧ Aside0 (Kd.C k29 wr Ax x.length x) ∧ Aside0 (Below w.heap.size w wr))
  case atStart => exact ⟨0, rfl, by omega, by omega, H, HRX, HB⟩
  case round =>
   clear H HB HRX
   obtain ⟨i, rfl, i0, i1, HI, HRX, HB⟩ := hrel
   have hp := HI.out
   clear HI
   cases gk with
   | zero => cases hp
   | succ gq =>
   simp only [parquetrylaw17_WrapWide.wl] at hp
   by_cases c4 : i < (x.length : Int)
   case neg =>
    rw [if_neg c4] at hp
    have HA := Aside0.mk hp
    have g5 : decide (i < (x.length : Int)) = false := decide_eq_false c4
    clear hp c4
    go_wp2_with (go_at_call 17; refine (parquetrylaw17_awake.calls gq r _ HA.out).mono ?_; rintro e w9 ⟨rfl, hb⟩; have n0_ := Aside0.mk (below_step HB.out hb); clear HB hb; have HB := n0_; clear n0_)
    go_ret
    exact ⟨rfl, HB.out⟩
   rw [if_pos c4] at hp
   have g5 : decide (i < (x.length : Int)) = true := decide_eq_true c4
   by_cases c5 : 0 ≤ i ∧ 0 ≤ (rd_T29 x i).f0 ∧ (rd_T29 x i).f0 ≤ (rd_T29 x i).f2 ∧ (rd_T29 x i).f2 ≤ (l0.length : Int) ∧ (rd_T29 x i).f1 ≤ (l0.length : Int) ∧ 0 ≤ (rd_T29 x i).f1
   case neg =>
    rw [if_neg c5] at hp
    cases hp
   rw [if_pos c5] at hp
   obtain ⟨ad, e0, h0, h1, h2, h3, h4⟩ := at_T29 HRX.out i i0 c4
   cases e0
   have p0 : (0 ≤ i) = True := eq_true i0
   have p1 : (i < (x.length : Int)) = True := eq_true c4
   generalize rd_T29 x i = y at h0 h1 h2 h3 h4 hp c5
   obtain ⟨y0, y1, y2, y3, y4⟩ := y
   dsimp only at h0 h1 h2 h3 h4 hp c5
   obtain ⟨_, q0, q1, q2, q3, q4⟩ := c5
   obtain ⟨m2, hm2, hp⟩ := Option.bind_eq_some_iff.1 hp
   by_cases c6 : m2 = false ∨ y2 = y0 + 1
   case neg =>
    rw [if_neg c6] at hp
    cases hp
   rw [if_pos c6] at hp
   obtain ⟨A2, cc2, hcut, hct, hcl⟩ := parquetrylaw17_WrapWide.cut HR.out HC.out y0 y2 q0 q1 q2
   have HM2 := Aside0.mk hm2
   have HT := Aside0.mk hct
   have HTC := Aside0.mk hcl
   have HP := Aside0.mk hp
   have i2 : i < (x.length : Int) := c4
   clear hm2 hct hcl hp c4
   generalize ((l0.take y2.toNat).drop y0.toNat) = ms at HM2 HT HTC hcut
   have f0 : decide (y0 < 0) = false := decide_eq_false (by omega)
   have f1 : decide (y2 < y0) = false := decide_eq_false (by omega)
   have f2 : decide ((l0.length : Int) < y2) = false := decide_eq_false (by omega)
   have f3 : decide ((l0.length : Int) < y1) = false := decide_eq_false (by omega)
   have f4 : m2 = false ∨ (m2 = true ∧ (y2 != y0 + 1) = false) := by
    cases m2
    ·
     exact .inl rfl
    ·
     rcases c6 with h | h
     ·
      cases h
     ·
      exact .inr ⟨rfl, by simp [h]⟩
   clear c6
   rcases f4 with rfl | ⟨rfl, f4⟩
   all_goals
    go_upto_region 13 with (go_at_call 16; refine (parquetryref17_More.calls gq _ _ ms a1 _ _ (Kd.C_alloc (Kd.C_below HT.out HB.out) _) HTC.out HM2.out).mono ?_; rintro e w4 ⟨rfl, hb⟩; have BK := Aside0.mk (blk_below (blk_new wr _) hb); have x0 := (blk_cell BK.out 0).trans rfl; have x1 := (blk_cell BK.out 1).trans rfl; have x2 := (blk_cell BK.out 2).trans rfl; have n1_ := Aside0.mk (Kd.C_below (Kd.C_alloc HRX.out _) hb); clear HRX; have HRX := n1_; clear n1_; have n0_ := Aside0.mk (below_step (below_alloc HB.out _) hb); clear HB hb; have HB := n0_; clear n0_)
    have hp := HP.out
    clear HP HM2 HT HTC hcut
    by_cases c7 : i + 1 = (x.length : Int)
    ·
     rw [if_pos c7] at hp
     have HA := Aside0.mk hp
     have g6 : ((i + 1) == (x.length : Int)) = true := beq_iff_eq.mpr c7
     clear hp c7
     go_wp2_with (go_at_call 17; refine (parquetrylaw17_awake.calls gq r _ HA.out).mono ?_; rintro e w9 ⟨rfl, hb⟩; have n0_ := Aside0.mk (below_step HB.out hb); clear HB hb; have HB := n0_; clear n0_)
     go_ret
     exact ⟨rfl, HB.out⟩
    rw [if_neg c7] at hp
    have g6 : ((i + 1) == (x.length : Int)) = false := beq_eq_false_iff_ne.mpr c7
    obtain ⟨ee, he, hp⟩ := Option.bind_eq_some_iff.1 hp
    by_cases c8 : ee ≤ n ∧ y0 ≤ ee ∧ ee ≤ (l0.length : Int)
    case neg =>
     rw [if_neg c8] at hp
     cases hp
    rw [if_pos c8] at hp
    obtain ⟨q, hq, hp⟩ := Option.bind_eq_some_iff.1 hp
    by_cases c9 : q = true
    case neg =>
     rw [if_neg c9] at hp
     cases hp
    rw [if_pos c9] at hp
    subst c9
    obtain ⟨A3, cc3, hcut, hct, hcl⟩ := parquetrylaw17_WrapWide.cut HR.out HC.out y0 ee q0 c8.2.1 c8.2.2
    have HM3 := Aside0.mk hq
    have HT3 := Aside0.mk hct
    have HTC3 := Aside0.mk hcl
    have HW := Aside0.mk hp
    have HE := Aside0.mk he
    generalize ((l0.take ee.toNat).drop y0.toNat) = es at HM3 HT3 HTC3 hcut
    have g7 : decide (n < ee) = false := decide_eq_false (by omega)
    clear hq hct hcl hp he c7 c8
    go_wp2
    go_loopg [9] gq (fun kq s9 wq => ∃ e : Int, s9 = .int .i64 e ∧ 0 ≤ e ∧ e ≤ 1000000 ∧ Aside0 (parquetrylaw17_WrapWide.we kq l0 n e = some ee) ∧ Aside0 (wq.heap[wr.heap.size]? = some (.cells #[.int .i64 y0, .int .i64 y1, .int .i64 y2, .int .i64 y3, .int .i64 y4] 29 (0, 0))) ∧ Aside0 (Kd.C k29 wq (some ad) x.length x) ∧ Aside0 (Below w.heap.size w wq))
    case atStart => exact ⟨y1 + 1, rfl, by omega, by omega, HE, BK, HRX, HB⟩
    case round =>
     clear HE BK HRX HB x0 x1 x2
     obtain ⟨e, rfl, e0, e1, HE, BK, HRX, HB⟩ := hrel
     have hp := HE.out
     clear HE
     have x0 := (blk_cell BK.out 0).trans rfl
     have x1 := (blk_cell BK.out 1).trans rfl
     cases gk with
     | zero => cases hp
     | succ gj =>
     simp only [parquetrylaw17_WrapWide.we] at hp
     by_cases d1 : e < n
     case neg =>
      rw [if_neg d1] at hp
      obtain rfl := Option.some.inj hp
      have g8 : decide (e < n) = false := decide_eq_false d1
      clear hp d1
      go_wp2_with (go_at_call 16; refine (parquetryref17_More.calls gq _ _ es a1 _ _ (Kd.C_below HT3.out HB.out) HTC3.out HM3.out).mono ?_; rintro e w6 ⟨rfl, hb⟩; have n1_ := Aside0.mk (Kd.C_below HRX.out hb); clear HRX; have HRX := n1_; clear n1_; have n0_ := Aside0.mk (below_step HB.out hb); clear HB hb; have HB := n0_; clear n0_)
      go_roundg gq
      case measure => omega
      case rel => exact ⟨i + 1, rfl, by omega, by omega, HW, HRX, HB⟩
     rw [if_pos d1] at hp
     have g8 : decide (e < n) = true := decide_eq_true d1
     by_cases d2 : 0 ≤ e ∧ e < (l0.length : Int)
     case neg =>
      rw [if_neg d2] at hp
      cases hp
     rw [if_pos d2] at hp
     obtain ⟨ad3, e3, j0, j1, j2, j3, j4, j5⟩ := at_T39 (Kd.C_below HR.out HB.out) e d2.1 d2.2
     cases e3
     have p2 : (0 ≤ e) = True := eq_true d2.1
     have p3 : (e < (l0.length : Int)) = True := eq_true d2.2
     generalize rd_T39 l0 e = z at j0 j1 j2 j3 j4 j5 hp
     obtain ⟨z0, z1, z2, z3, z4, z5⟩ := z
     dsimp only at j0 j1 j2 j3 j4 j5 hp
     have e2 : e < n := d1
     clear d1 d2
     cases hb5 : (z5 == 32)
     ·
      rw [hb5] at hp
      simp only [Bool.false_eq_true, if_false] at hp
      have HE := Aside0.mk hp
      clear hp
      go_wp2_with (go_at_call 20; refine (wrap_Blank.calls z0 z1 z2 z3 z4 z5 (z5 == 32) _ rfl).mono ?_; rintro e_ w5 ⟨rfl, hb⟩; rw [hb5]; have bk := blk_below BK.out hb; clear x0 x1 BK; have BK := Aside0.mk bk; clear bk; have n1_ := Aside0.mk (Kd.C_below HRX.out hb); clear HRX; have HRX := n1_; clear n1_; have n0_ := Aside0.mk (below_step HB.out hb); clear HB hb; have HB := n0_; clear n0_)
      go_roundg gj
      case measure => omega
      case rel => exact ⟨e + 1, rfl, by omega, by omega, HE, BK, HRX, HB⟩
     ·
      rw [hb5] at hp
      simp only [if_true] at hp
      obtain rfl := Option.some.inj hp
      clear hp
      go_upto_region 17 with (go_at_call 20; refine (wrap_Blank.calls z0 z1 z2 z3 z4 z5 (z5 == 32) _ rfl).mono ?_; rintro e_ w5 ⟨rfl, hb⟩; rw [hb5]; have bk := blk_below BK.out hb; clear x0 x1 BK; have BK := Aside0.mk bk; clear bk; have x0 := (blk_cell BK.out 0).trans rfl; have n1_ := Aside0.mk (Kd.C_below HRX.out hb); clear HRX; have HRX := n1_; clear n1_; have n0_ := Aside0.mk (below_step HB.out hb); clear HB hb; have HB := n0_; clear n0_)
      go_wp2_with (go_at_call 16; refine (parquetryref17_More.calls gq _ _ es a1 _ _ (Kd.C_below HT3.out HB.out) HTC3.out HM3.out).mono ?_; rintro e w6 ⟨rfl, hb⟩; have n1_ := Aside0.mk (Kd.C_below HRX.out hb); clear HRX; have HRX := n1_; clear n1_; have n0_ := Aside0.mk (below_step HB.out hb); clear HB hb; have HB := n0_; clear n0_)
      go_roundg gq
      case measure => omega
      case rel => exact ⟨i + 1, rfl, by omega, by omega, HW, HRX, HB⟩
end


/-- THE ONE PURE STATEMENT of parquetrylaw17_WrapWide: yours. -/
def parquetrylaw17_WrapWide.Pure : Prop := ∀ (l0 : List (S39)) (a1 : Int), l0.length ≤ maxLen → l0.length * 48 ≤ 140737488351232 → (∀ x ∈ l0, (Lit.int .i64 x.f0).wf = true ∧ (Lit.int .i64 x.f1).wf = true ∧ (Lit.int .i64 x.f2).wf = true ∧ (Lit.int .i64 x.f3).wf = true ∧ (Lit.int .i64 x.f4).wf = true ∧ (Lit.int .i64 x.f5).wf = true) → (Lit.int .i64 a1).wf = true → ∃ k, parquetrylaw17_WrapWide.f k l0 a1 = some true
theorem parquetrylaw17_WrapWide.walk (P : parquetrylaw17_WrapWide.Pure) (a0 : Option Addr) (cap0 : Nat) (l0 : List (S39)) (a1 : Int) (w : World) (hr0 : Kd.C k39 w a0 l0.length l0) (hc0 : l0.length ≤ cap0) (hm0 : l0.length ≤ maxLen) (y0 : l0.length * 48 ≤ 140737488351232) (hw0 : ∀ x ∈ l0, (Lit.int .i64 x.f0).wf = true ∧ (Lit.int .i64 x.f1).wf = true ∧ (Lit.int .i64 x.f2).wf = true ∧ (Lit.int .i64 x.f3).wf = true ∧ (Lit.int .i64 x.f4).wf = true ∧ (Lit.int .i64 x.f5).wf = true) (w1 : (Lit.int .i64 a1).wf = true) :
  Calls Try.prog 9 #[.slice a0 l0.length cap0, .int .i64 a1] w fun e w' => e = .returned (.bool true) ∧ Below w.heap.size w w' := by
 obtain ⟨k, h⟩ := P l0 a1 hm0 y0 hw0 w1
 refine (parquetrylaw17_WrapWide.calls k _ _ l0 a1 true w hr0 hc0 h).mono ?_
 rintro e w' ⟨rfl, hd⟩
 exact ⟨rfl, hd⟩

end Go.Proofs.Ytieffcjbbhigbaa.PC17
