/- For the laws of the group C17: the Lean functions that the Go functions compute, and proofs that they do. Written by wip/hprint.py of this repo over the kit's printer; nothing here is trusted: Lean checks it. -/
import Derived.Test.YtieffcjbbhigbaaPC17x0
import Derived.Test.YtieffcjbbhigbaaPC17x3
namespace Go.Proofs.Ytieffcjbbhigbaa.PC17
open Go.RowKit Go.Proofs.YtieffcjbbhigbaaW.PrintWords Go.Proofs.YtieffcjbbhigbaaW.PrintLast Go.Proofs.YtieffcjbbhigbaaW.PrintMore
attribute [local go_sem] max2_int min2_int max_two min_two max_three min_three max_four min_four   -- for this text's walks alone
set_option linter.unusedVariables false
set_option linter.unusedSimpArgs false

/-! ### wrap_Lines: function 26: by hand -/
section
open Go.Proofs.YtieffcjbbhigbaaH
/-- Is it a blank? -/
def wrap_Lines.bl (c : S39) : Bool := c.f5 == 32
theorem wrap_Lines.notBlank (x0 x1 x2 x3 x4 x5 : Int) (W : World) : Calls Try.prog 52 #[.agg #[.int .i64 x0, .int .i64 x1, .int .i64 x2, .int .i64 x3, .int .i64 x4, .int .i64 x5]] W fun e w' => e = .returned (.bool (!(x5 == 32))) ∧ Below W.heap.size W w' := by
 have HB := Aside0.mk (Below.refl W.heap.size W)
 go_enter Try.func52, Try.ntmps52
 go_wp2_with (go_at_call 20; refine (wrap_Blank.calls x0 x1 x2 x3 x4 x5 (x5 == 32) _ rfl).mono ?_; rintro e w1 ⟨rfl, hb⟩; have n0_ := Aside0.mk (below_step (below_alloc HB.out _) hb); clear HB hb; have HB := n0_; clear n0_)
 go_ret
 exact ⟨rfl, HB.out⟩
/-- The first one that is no blank; -1, if there is none. -/
def wrap_Lines.ix : List S39 → Int → Int
 | [], _ => -1
 | c :: r, i => if wrap_Lines.bl c then wrap_Lines.ix r (i + 1) else i
theorem wrap_Lines.ix_step (l : List S39) (i : Nat) (hi : i < l.length) : wrap_Lines.ix (l.drop i) i = if wrap_Lines.bl (rd_T39 l (i : Int)) then wrap_Lines.ix (l.drop (i + 1)) ((i + 1 : Nat) : Int) else (i : Int) := by
 rw [List.drop_eq_getElem_cons hi]
 have e : rd_T39 l (i : Int) = l[i] := by
  unfold rd_T39
  rw [Int.toNat_natCast, List.getD_eq_getElem?_getD, List.getElem?_eq_getElem hi]
  rfl
 rw [e]
 simp only [wrap_Lines.ix]
 norm_cast
set_option maxHeartbeats 1000000 in
set_option maxRecDepth 100000 in
theorem wrap_Lines.index (A : Option Addr) (c : Nat) (l : List S39) (w : World) (hr : Kd.C k39 w A l.length l) (hl : l.length < 1000000) :
  Calls Try.prog 51 #[.slice A l.length c, .func (.func 52) #[] #[]] w fun e w' => e = .returned (.int .i64 (wrap_Lines.ix l 0)) ∧ Below w.heap.size w w' := by
 have eg : ∀ args w, (callFunc 52 args).run Try.prog w = .ok (.enter 52 args) w := enters_of Try.func52 (by kernel_rfl) rfl
 have HR := Aside0.mk hr
 have HB0 := Aside0.mk (Below.refl w.heap.size w)
 generalize hr0 : wrap_Lines.ix l 0 = r
 have R0 := Aside0.mk hr0
 clear hr hr0
 go_enter Try.func51, Try.ntmps51
 go_wp2
 go_loopg [8] l.length (fun kx s8 wr => ∃ i : Nat, s8 = .int .i64 (i : Int) ∧ i ≤ l.length ∧ l.length - i ≤ kx ∧ Aside0 (wrap_Lines.ix (l.drop i) (i : Int) = r) ∧ Aside0 (Below w.heap.size w wr))
 case atStart => exact ⟨0, rfl, Nat.zero_le _, by omega, R0, HB0⟩
 case round =>
  clear HB0
  obtain ⟨i, rfl, hi, hk, HI, HB⟩ := hrel
  by_cases hlt : (i : Int) < (l.length : Int)
  ·
   have hlt2 : i < l.length := by omega
   obtain ⟨ad, e0, h0, h1, h2, h3, h4, h5⟩ := at_T39 (Kd.C_below HR.out HB.out) (i : Int) (by omega) hlt
   cases e0
   simp only [Int.toNat_natCast] at h0 h1 h2 h3 h4 h5
   have hst := wrap_Lines.ix_step l i hlt2
   rw [HI.out] at hst
   unfold wrap_Lines.bl at hst
   have b1 : decide ((i : Int) < (l.length : Int)) = true := decide_eq_true hlt
   have p0 : (0 ≤ (i : Int)) = True := eq_true (by omega)
   have q0 : ((i : Int) < (l.length : Int)) = True := eq_true hlt
   generalize rd_T39 l (i : Int) = x at h0 h1 h2 h3 h4 h5 hst
   obtain ⟨x0, x1, x2, x3, x4, x5⟩ := x
   dsimp only at h0 h1 h2 h3 h4 h5 hst
   cases hb5 : (x5 == 32)
   ·
    rw [hb5] at hst
    simp only [Bool.false_eq_true, if_false] at hst
    subst hst
    clear hlt
    go_wp2_with (go_at_fn 52; refine (wrap_Lines.notBlank x0 x1 x2 x3 x4 x5 _).mono ?_; rintro e w2 ⟨rfl, hb2⟩; rw [hb5]; have n0_ := Aside0.mk (below_step HB.out hb2); clear HB hb2; have HB := n0_; clear n0_)
    go_ret
    exact ⟨rfl, HB.out⟩
   ·
    rw [hb5] at hst
    simp only [if_true] at hst
    have H2 := Aside0.mk hst.symm
    clear hst hlt
    go_wp2_with (go_at_fn 52; refine (wrap_Lines.notBlank x0 x1 x2 x3 x4 x5 _).mono ?_; rintro e w2 ⟨rfl, hb2⟩; rw [hb5]; have n0_ := Aside0.mk (below_step HB.out hb2); clear HB hb2; have HB := n0_; clear n0_)
    go_roundg (l.length - (i + 1))
    case measure => omega
    case rel => exact ⟨i + 1, by rw [show (i : Int) + 1 = ((i + 1 : Nat) : Int) by omega], by omega, Nat.le_refl _, H2, HB⟩
  ·
   have hi2 : i = l.length := by omega
   have b1 : decide ((i : Int) < (l.length : Int)) = false := decide_eq_false hlt
   have hr2 := HI.out
   rw [hi2, List.drop_length] at hr2
   obtain rfl : -1 = r := hr2
   clear hlt
   go_wp2
   go_ret
   exact ⟨rfl, HB.out⟩
theorem wrap_Lines.ix_bd : ∀ (l : List S39) (i : Int), 0 ≤ i → -1 ≤ wrap_Lines.ix l i ∧ wrap_Lines.ix l i ≤ i + l.length
 | [], i, h => by simp only [wrap_Lines.ix, List.length_nil]; omega
 | c :: r, i, h => by
  have := wrap_Lines.ix_bd r (i + 1) (by omega)
  simp only [wrap_Lines.ix, List.length_cons]
  split <;> omega
/-- The part's search for the last blank that fits. -/
def wrap_Lines.pl : Nat → List S39 → Int → Int → Int → Int → Int → Option (Int × Int × Bool)
 | 0, _, _, _, _, _, _ => none
 | k + 1, l, wd, fr, word, en, at_ => if 0 ≤ word ∧ fr + word < at_ then (if 0 ≤ at_ ∧ at_ < (l.length : Int) then (if wrap_Lines.bl (rd_T39 l at_) then (wrap_paragraph_blanks.f k l wd at_).bind fun b => some (b.2, b.1, b.2 == (l.length : Int)) else wrap_Lines.pl k l wd fr word en (at_ - 1)) else none)
   else some (mx en (fr + 1), mx en (fr + 1), mx en (fr + 1) == (l.length : Int))
def wrap_Lines.part (k : Nat) (l : List S39) (wd fr : Int) : Option (Int × Int × Bool) := (wrap_Fits.f k l fr wd).bind fun en => if en = (l.length : Int) then some (en, en, true) else if 0 ≤ fr ∧ fr ≤ en + 1 ∧ en + 1 ≤ (l.length : Int) ∧ l.length < 1000000 then wrap_Lines.pl k l wd fr (wrap_Lines.ix ((l.take (en + 1).toNat).drop fr.toNat) 0) en en else none
set_option maxHeartbeats 2000000 in
set_option maxRecDepth 100000 in
theorem wrap_Lines.part_calls (k : Nat) (A : Option Addr) (c : Nat) (l : List S39) (wd fr r1 r2 : Int) (r3 : Bool) (w : World) (hr0 : Kd.C k39 w A l.length l) (hc0 : l.length ≤ c) (h : wrap_Lines.part k l wd fr = some (r1, r2, r3)) :
  Calls Try.prog 48 #[.agg #[.slice A l.length c, .int .i64 wd, .int .i64 fr]] w fun e w' => e = .returned (.tuple #[.int .i64 r1, .int .i64 r2, .bool r3]) ∧ Below w.heap.size w w' := by
 have HR := Aside0.mk hr0
 have HC := Aside0.mk hc0
 have HB := Aside0.mk (Below.refl w.heap.size w)
 unfold wrap_Lines.part at h
 obtain ⟨en, h1, h⟩ := Option.bind_eq_some_iff.1 h
 have HF := Aside0.mk h1
 clear h1 hr0 hc0
 go_enter Try.func48, Try.ntmps48
 by_cases c1 : en = (l.length : Int)
 ·
  rw [if_pos c1] at h
  have b1 : (en == (l.length : Int)) = true := beq_iff_eq.mpr c1
  clear c1
  obtain ⟨rfl, rfl, rfl⟩ : en = r1 ∧ en = r2 ∧ true = r3 := by simpa using h
  clear h
  go_wp2_with (go_at_call 24; refine (wrap_Fits.calls k _ _ l fr wd en _ (Kd.C_alloc HR.out _) HC.out HF.out).mono ?_; rintro e w1 ⟨rfl, hb⟩; have BK := Aside0.mk (blk_below (blk_new w _) hb); have x0 := (blk_cell BK.out 0).trans rfl; have n0_ := Aside0.mk (below_step (below_alloc HB.out _) hb); clear HB hb; have HB := n0_; clear n0_)
  go_ret3
  exact ⟨rfl, HB.out⟩
 ·
  rw [if_neg c1] at h
  have b1 : (en == (l.length : Int)) = false := beq_eq_false_iff_ne.mpr c1
  by_cases c2 : 0 ≤ fr ∧ fr ≤ en + 1 ∧ en + 1 ≤ (l.length : Int) ∧ l.length < 1000000
  case neg =>
   rw [if_neg c2] at h
   cases h
  rw [if_pos c2] at h
  obtain ⟨q0, q1, q2, q3⟩ := c2
  clear c1
  have H := Aside0.mk h
  clear h
  have we : IntKind.i64.wrap (en + 1) = en + 1 := by rw [IntKind.wrap_i64]; omega
  obtain ⟨i0, hi0, _, hsz, _⟩ := info_parts info39
  have hcut := cut_mid (P := Try.prog) 22 39 .i64 .i64 Try.underlying22 hi0 6 hsz A l.length c fr (en + 1) q0 q1 q2 HC.out
  have hmid := Kd.C_mid (lo := fr.toNat) (hi := (en + 1).toNat) (c := c) HR.out (by omega) (by omega) HC.out
  have hml : (((l.take (en + 1).toNat).drop fr.toNat).length) = (en + 1).toNat - fr.toNat := by rw [List.length_drop, List.length_take]; omega
  rw [← hml] at hcut
  generalize hA2 : (if c = fr.toNat then A else A.map (·.add (fr.toNat * 6))) = A2 at hcut
  have hmid2 : Kd.C k39 w A2 ((l.take (en + 1).toNat).drop fr.toNat).length ((l.take (en + 1).toNat).drop fr.toNat) := by rw [← hA2]; exact hmid
  clear hmid hA2 hml
  generalize c - fr.toNat = cm at hcut
  have HM := Aside0.mk hmid2
  have HLM := Aside0.mk (show ((l.take (en + 1).toNat).drop fr.toNat).length < 1000000 by rw [List.length_drop, List.length_take]; omega)
  clear hmid2
  generalize ((l.take (en + 1).toNat).drop fr.toNat) = ms at hcut HM HLM H
  go_upto_region 5 with (first | (go_at_call 24; refine (wrap_Fits.calls k _ _ l fr wd en _ (Kd.C_alloc HR.out _) HC.out HF.out).mono ?_; rintro e w1 ⟨rfl, hb⟩; have BK := Aside0.mk (blk_below (blk_new w _) hb); have x0 := (blk_cell BK.out 0).trans rfl; have x1 := (blk_cell BK.out 1).trans rfl; have x2 := (blk_cell BK.out 2).trans rfl; have n0_ := Aside0.mk (below_step (below_alloc HB.out _) hb); clear HB hb; have HB := n0_; clear n0_) | (go_at_call 51; refine (wrap_Lines.index A2 cm ms _ (Kd.C_below HM.out HB.out) HLM.out).mono ?_; rintro e w2 ⟨rfl, hb⟩; have bk := blk_below BK.out hb; clear x0 x1 x2 BK; have BK := Aside0.mk bk; clear bk; have x0 := (blk_cell BK.out 0).trans rfl; have x1 := (blk_cell BK.out 1).trans rfl; have x2 := (blk_cell BK.out 2).trans rfl; have n0_ := Aside0.mk (below_step HB.out hb); clear HB hb; have HB := n0_; clear n0_))
  go_wp2
  have hwd := wrap_Lines.ix_bd ms 0 (by omega)
  have hml2 := HLM.out
  generalize wrap_Lines.ix ms 0 = word at H hwd ⊢
  have wb0 : -1 ≤ word := hwd.1
  have wb1 : word ≤ 1000000 := by omega
  have fb1 : fr ≤ 1000000 := by omega
  clear hwd hml2 hcut HM HLM hsz hi0 h
  go_loopg [7] k (fun kq s7 wr => ∃ at_ : Int, s7 = .int .i64 at_ ∧ -1 ≤ at_ ∧ at_ ≤ 1000000 ∧ Aside0 (wrap_Lines.pl kq l wd fr word en at_ = some (r1, r2, r3)) ∧ Aside0 (wr.heap[w.heap.size]? = some (.cells #[.slice A l.length c, .int .i64 wd, .int .i64 fr] 79 (0, 0))) ∧ Aside0 (Below w.heap.size w wr))
  case atStart => exact ⟨en, rfl, by omega, by omega, H, BK, HB⟩
  case round =>
   clear H HB BK x0 x1 x2
   obtain ⟨at_, rfl, a0, a1, HI, BK, HB⟩ := hrel
   have hp := HI.out
   clear HI
   cases gk with
   | zero => cases hp
   | succ gk =>
   simp only [wrap_Lines.pl] at hp
   have x0 := (blk_cell BK.out 0).trans rfl
   have x1 := (blk_cell BK.out 1).trans rfl
   have x2 := (blk_cell BK.out 2).trans rfl
   by_cases c3 : 0 ≤ word ∧ fr + word < at_
   ·
    rw [if_pos c3] at hp
    by_cases c4 : 0 ≤ at_ ∧ at_ < (l.length : Int)
    case neg =>
     rw [if_neg c4] at hp
     cases hp
    rw [if_pos c4] at hp
    obtain ⟨ad, e0, h0, h1, h2, h3, h4, h5⟩ := at_T39 (Kd.C_below HR.out HB.out) at_ c4.1 c4.2
    cases e0
    have p0 : (0 ≤ at_) = True := eq_true c4.1
    have p1 : (at_ < (l.length : Int)) = True := eq_true c4.2
    have g0 : decide (0 ≤ word) = true := decide_eq_true c3.1
    have g1 : decide (fr + word < at_) = true := decide_eq_true c3.2
    have g2 : (0 ≤ word) := c3.1
    have g3 : fr + word < at_ := c3.2
    unfold wrap_Lines.bl at hp
    generalize rd_T39 l at_ = x at h0 h1 h2 h3 h4 h5 hp
    obtain ⟨y0, y1, y2, y3, y4, y5⟩ := x
    dsimp only at h0 h1 h2 h3 h4 h5 hp
    clear c3 c4
    cases hb5 : (y5 == 32)
    ·
     rw [hb5] at hp
     simp only [Bool.false_eq_true, if_false] at hp
     have HP := Aside0.mk hp
     clear hp
     go_wp2_with (go_at_call 20; refine (wrap_Blank.calls y0 y1 y2 y3 y4 y5 (y5 == 32) _ rfl).mono ?_; rintro e w3 ⟨rfl, hb⟩; rw [hb5]; have bk := blk_below BK.out hb; clear x0 x1 x2 BK; have BK := Aside0.mk bk; clear bk; have n0_ := Aside0.mk (below_step HB.out hb); clear HB hb; have HB := n0_; clear n0_)
     go_roundg gk
     case measure => omega
     case rel => exact ⟨at_ - 1, rfl, by omega, by omega, HP, BK, HB⟩
    ·
     rw [hb5] at hp
     simp only [if_true] at hp
     obtain ⟨b, hb1, hb2⟩ := Option.bind_eq_some_iff.1 hp
     clear hp
     obtain ⟨b1, b2⟩ := b
     simp only [Option.some.injEq, Prod.mk.injEq] at hb2
     obtain ⟨rfl, rfl, rfl⟩ := hb2
     have HBL := Aside0.mk hb1
     clear hb1
     go_upto_region 10 with (first | (go_at_call 20; refine (wrap_Blank.calls y0 y1 y2 y3 y4 y5 (y5 == 32) _ rfl).mono ?_; rintro e w3 ⟨rfl, hb⟩; rw [hb5]; have bk := blk_below BK.out hb; clear x0 x1 x2 BK; have BK := Aside0.mk bk; clear bk; have x0 := (blk_cell BK.out 0).trans rfl; have x1 := (blk_cell BK.out 1).trans rfl; have n0_ := Aside0.mk (below_step HB.out hb); clear HB hb; have HB := n0_; clear n0_) | (go_at_call 53; refine (wrap_paragraph_blanks.calls gk _ _ l wd at_ b1 b2 _ (Kd.C_below HR.out HB.out) HC.out HBL.out).mono ?_; rintro e w4 ⟨rfl, hb⟩; have bk := blk_below BK.out hb; clear x0 x1 BK; have BK := Aside0.mk bk; clear bk; have x0 := (blk_cell BK.out 0).trans rfl; have n0_ := Aside0.mk (below_step HB.out hb); clear HB hb; have HB := n0_; clear n0_))
     go_quiet (fail)
     all_goals (try go_wp2)
     go_ret3
     exact ⟨rfl, pw_below_drewN HB.out _⟩
   ·
    rw [if_neg c3] at hp
    have fin : ∀ (m : Int), mx en (fr + 1) = m → (if en < fr + 1 then fr + 1 else en) = m := fun m hm => by rw [← hm]; rfl
    obtain ⟨m, hm⟩ : ∃ m, mx en (fr + 1) = m := ⟨_, rfl⟩
    rw [hm] at hp
    replace hm := fin m hm
    clear fin
    simp only [Option.some.injEq, Prod.mk.injEq] at hp
    obtain ⟨rfl, rfl, rfl⟩ := hp
    by_cases c5 : 0 ≤ word
    ·
     have g1 : decide (fr + word < at_) = false := decide_eq_false (fun h => c3 ⟨c5, h⟩)
     have g0 : decide (0 ≤ word) = true := decide_eq_true c5
     clear c3
     by_cases c6 : en < fr + 1
     ·
      rw [if_pos c6] at hm
      subst hm
      go_upto_region 12 with (fail)
      go_quiet (fail)
      all_goals (try go_wp2)
      go_ret3
      exact ⟨rfl, pw_below_drewN HB.out _⟩
     ·
      rw [if_neg c6] at hm
      subst hm
      go_upto_region 12 with (fail)
      go_quiet (fail)
      all_goals (try go_wp2)
      go_ret3
      exact ⟨rfl, pw_below_drewN HB.out _⟩
    ·
     have g0 : decide (0 ≤ word) = false := decide_eq_false c5
     clear c3 c5
     by_cases c6 : en < fr + 1
     ·
      rw [if_pos c6] at hm
      subst hm
      go_upto_region 12 with (fail)
      go_quiet (fail)
      all_goals (try go_wp2)
      go_ret3
      exact ⟨rfl, pw_below_drewN HB.out _⟩
     ·
      rw [if_neg c6] at hm
      subst hm
      go_upto_region 12 with (fail)
      go_quiet (fail)
      all_goals (try go_wp2)
      go_ret3
      exact ⟨rfl, pw_below_drewN HB.out _⟩

/-- The lines from a cluster on. -/
def wrap_Lines.ll : Nat → List S39 → Int → Int → Option (List S29)
 | 0, _, _, _ => none
 | k + 1, l, wd, fr => (wrap_Lines.part k l wd fr).bind fun p => if p.2.2 = true then some [⟨fr, p.1, p.2.1, 1, 0⟩] else (wrap_Lines.ll k l wd p.1).bind fun ys => some (⟨fr, p.1, p.2.1, 0, 0⟩ :: ys)
def wrap_Lines.enc (y : S29) : Array Value := #[.agg #[.int .i64 y.f0, .int .i64 y.f1, .int .i64 y.f2, .int .i64 y.f3, .int .i64 y.f4]]
/-- What a round keeps. -/
def wrap_Lines.KP (B bp : Nat) (X Y : World) : Prop := Below B X Y ∧ ∀ o, X.heap[bp]? = some o → Y.heap[bp]? = some o
theorem wrap_Lines.KP_t {B bp : Nat} {X Y Z : World} (h : wrap_Lines.KP B bp X Y) (g : wrap_Lines.KP B bp Y Z) : wrap_Lines.KP B bp X Z := ⟨h.1.trans g.1, fun o ho => g.2 o (h.2 o ho)⟩
theorem wrap_Lines.KP_b {B bp : Nat} {W0 : World} (hB : B ≤ W0.heap.size) (hbp : bp < W0.heap.size) (W : World) (l : Nat) (o o' : Obj) (hl : W0.heap.size ≤ l) (h : W.heap[l]? = some o) (h1 : o.isCells = false) (h2 : o.isWalk = false) : wrap_Lines.KP B bp W (W.putObj l o') :=
 ⟨belowK_b (w := W0) hB W l o o' hl h h1 h2, fun q hq => (World.putObj_heap_other (by omega)).trans hq⟩
attribute [local go_sem] Oper.semAt_some
set_option maxHeartbeats 2000000 in
set_option maxRecDepth 100000 in
theorem wrap_Lines.it (n : Nat) (hn : 1 ≤ n) (l_ bp : Nat) (w0 : World) (A : Option Addr) (c : Nat) (l : List S39) (wd : Int) (k : Nat) (ys : List S29) (J Jx : List S29 → World → Prop)
  (HR : Aside0 (Kd.C k39 w0 A l.length l)) (HC : Aside0 (l.length ≤ c)) (hys : Aside0 (wrap_Lines.ll k l wd 0 = some ys))
  (hY : ∀ pre x W, J pre W → pre.length < ys.length → YieldAt Fence.wide (n - 1) Try.prog l_ (wrap_Lines.enc x) W fun e W' => (e = .returned (.bool true) ∧ J (pre ++ [x]) W' ∧ wrap_Lines.KP w0.heap.size bp W W') ∨ (e = .returned (.bool false) ∧ Jx (pre ++ [x]) W'))
  (W : World) (hJ : AbidesFrom W.heap.size J) (hb : Aside0 (Below w0.heap.size w0 W)) (hbp : Aside0 (W.heap[bp]? = some (.cells #[.slice A l.length c, .int .i64 wd] 59 (0, 0)))) (h0 : J [] W) :
  CallsIn Fence.wide n Try.prog 47 #[.func (.yield l_) #[] #[], .pointer (some ⟨bp, 0, none⟩)] W fun e W' => (∃ v, e = .returned v) ∧ ((∃ xs, xs = ys ∧ J xs W') ∨ (∃ pre, True ∧ Jx pre W')) := by
 refine callsIn_of_wp Try.func47 rfl trivial ?_ rfl
 simp only [Try.ntmps47, List.size_toArray, List.length_cons, List.length_nil, Nat.reduceAdd, Nat.reduceSub, Array.replicate_succ, Array.replicate_zero, List.push_toArray, List.append_toArray, List.nil_append, List.cons_append]
 gi_wp2
 have HY := Aside0.mk hY
 have HJ := Aside0.mk hJ
 have H0 := Aside0.mk h0
 clear hY hJ h0
 gi_loopg [3, 4] (ys.length) (fun kx s3 s4 wr => ∃ (pre rest : List S29) (fr : Int) (hard : Bool) (kk : Nat), s3 = .int .i64 fr ∧ s4 = .bool hard ∧ rest.length ≤ kx ∧ Aside0 (ys = pre ++ rest) ∧ Aside0 (hard = true → rest = []) ∧ Aside0 (hard = false → wrap_Lines.ll kk l wd fr = some rest) ∧ Aside0 (J pre wr) ∧ Aside0 (Below w0.heap.size w0 wr) ∧ Aside0 (wr.heap[bp]? = some (.cells #[.slice A l.length c, .int .i64 wd] 59 (0, 0))) ∧ Aside0 (W.heap.size ≤ wr.heap.size))
 case atStart => exact ⟨[], ys, 0, false, k, rfl, rfl, Nat.le_refl _, ⟨rfl⟩, ⟨fun h => by cases h⟩, ⟨fun _ => hys.out⟩, H0, hb, hbp, ⟨Nat.le_refl _⟩⟩
 case round =>
  clear H0 hb hbp hys
  obtain ⟨pre, rest, fr, hard, kk, rfl, rfl, hkx, HYS, HH, HL, H0, hb, hbp, hsz⟩ := hrel
  cases hard
  ·
   have hl := HL.out rfl
   clear HL HH
   cases kk with
   | zero => cases hl
   | succ kk =>
   simp only [wrap_Lines.ll] at hl
   obtain ⟨⟨p1, p2, p3⟩, hp, hl⟩ := Option.bind_eq_some_iff.1 hl
   have HP := Aside0.mk hp
   have HL := Aside0.mk hl
   clear hp hl
   have hB := Aside0.mk (Below.refl wr.heap.size wr)
   have x0 := (blk_cell hbp.out 0).trans rfl
   have x1 := (blk_cell hbp.out 1).trans rfl
   cases p3
   ·
    have hl := HL.out
    simp only [Bool.false_eq_true, if_false] at hl
    obtain ⟨rest2, hl2, hl3⟩ := Option.bind_eq_some_iff.1 hl
    obtain rfl := Option.some.inj hl3
    have HL3 := Aside0.mk hl2
    clear hl hl2 hl3 HL
    gi_upto_region 9 with (refine ⟨trivial, ?_⟩; gi_at_call 48; refine (callsIn_wide.2 (wrap_Lines.part_calls kk _ c l wd fr p1 p2 false _ (Kd.C_alloc (Kd.C_below HR.out hb.out) _) HC.out HP.out)).mono ?_; rintro e w1 ⟨rfl, hb1⟩; have n0_ := Aside0.mk (below_step (below_alloc hB.out _) hb1); clear hB hb1; have hB := n0_; clear n0_)
    obtain ⟨W5, hW5⟩ : ∃ W5, (w1.alloc (Obj.cells #[Value.int .i64 fr, Value.int .i64 p1, Value.int .i64 p2, Value.int .i64 0, Value.int .i64 0] 29)) = W5 := ⟨_, rfl⟩
    have hB5 : Below wr.heap.size wr W5 := by rw [← hW5]; exact below_alloc hB.out _
    have bk5 : W5.heap[w1.heap.size]? = some (.cells #[Value.int .i64 fr, Value.int .i64 p1, Value.int .i64 p2, Value.int .i64 0, Value.int .i64 0] 29 (0, 0)) := by rw [← hW5]; exact blk_new w1 _
    rw [hW5]
    have hJ5 : J pre W5 := HJ.out pre wr W5 none H0.out ⟨hB5.os, hB5.tape, hB5.output, hB5.size, fun k hk _ => hB5.block k hk⟩ (fun r e => by cases e)
    have hlen : pre.length < ys.length := by rw [HYS.out]; simp
    have hBw := Aside0.mk (below_weaken hb.out hb.out.size hB5)
    have hbq := Aside0.mk (blk_below hbp.out hB5)
    have hz5 := Aside0.mk (Nat.le_trans hsz.out hB5.size)
    obtain ⟨fn, tmps, assign, body, hy, hR⟩ := HY.out pre ⟨fr, p1, p2, 0, 0⟩ W5 hJ5 hlen
    dsimp only [wrap_Lines.enc] at hy
    have y0 := (blk_cell bk5 0).trans rfl
    have y1 := (blk_cell bk5 1).trans rfl
    have y2 := (blk_cell bk5 2).trans rfl
    have y3 := (blk_cell bk5 3).trans rfl
    have y4 := (blk_cell bk5 4).trans rfl
    clear hW5 hB5 bk5 hJ5 hlen x0 x1 hbp hb hsz H0 hB
    gi_wp2
    refine hR.mono ?_
    rintro e W6 (⟨rfl, hJ6, hk6⟩ | ⟨rfl, hJx6⟩)
    ·
     have h6 := Aside0.mk hJ6
     have k6 := Aside0.mk hk6
     clear hJ6 hk6 hy hR y0 y1 y2 y3 y4
     gi_wp2
     gi_roundg (rest2).length
     case measure => simp at hkx ⊢; omega
     case rel => exact ⟨pre ++ [⟨fr, p1, p2, 0, 0⟩], rest2, p1, false, kk, rfl, rfl, Nat.le_refl _, ⟨by rw [HYS.out]; simp⟩, ⟨fun h => by first | rfl | cases h⟩, ⟨fun h => by first | exact HL3.out | cases h⟩, h6, ⟨hBw.out.trans k6.out.1⟩, ⟨k6.out.2 _ hbq.out⟩, ⟨Nat.le_trans hz5.out k6.out.1.size⟩⟩
    ·
     have h6 := Aside0.mk hJx6
     clear hJx6 hy hR y0 y1 y2 y3 y4
     gi_wp2
     refine bodyPost_ret (results_none rfl _ _ _) rfl ?_
     exact ⟨⟨_, rfl⟩, .inr ⟨_, trivial, h6.out⟩⟩
   ·
    have hl := HL.out
    simp only [if_true] at hl
    obtain rfl := Option.some.inj hl
    clear hl HL
    gi_upto_region 9 with (refine ⟨trivial, ?_⟩; gi_at_call 48; refine (callsIn_wide.2 (wrap_Lines.part_calls kk _ c l wd fr p1 p2 true _ (Kd.C_alloc (Kd.C_below HR.out hb.out) _) HC.out HP.out)).mono ?_; rintro e w1 ⟨rfl, hb1⟩; have n0_ := Aside0.mk (below_step (below_alloc hB.out _) hb1); clear hB hb1; have hB := n0_; clear n0_)
    obtain ⟨W5, hW5⟩ : ∃ W5, (w1.alloc (Obj.cells #[Value.int .i64 fr, Value.int .i64 p1, Value.int .i64 p2, Value.int .i64 1, Value.int .i64 0] 29)) = W5 := ⟨_, rfl⟩
    have hB5 : Below wr.heap.size wr W5 := by rw [← hW5]; exact below_alloc hB.out _
    have bk5 : W5.heap[w1.heap.size]? = some (.cells #[Value.int .i64 fr, Value.int .i64 p1, Value.int .i64 p2, Value.int .i64 1, Value.int .i64 0] 29 (0, 0)) := by rw [← hW5]; exact blk_new w1 _
    rw [hW5]
    have hJ5 : J pre W5 := HJ.out pre wr W5 none H0.out ⟨hB5.os, hB5.tape, hB5.output, hB5.size, fun k hk _ => hB5.block k hk⟩ (fun r e => by cases e)
    have hlen : pre.length < ys.length := by rw [HYS.out]; simp
    have hBw := Aside0.mk (below_weaken hb.out hb.out.size hB5)
    have hbq := Aside0.mk (blk_below hbp.out hB5)
    have hz5 := Aside0.mk (Nat.le_trans hsz.out hB5.size)
    obtain ⟨fn, tmps, assign, body, hy, hR⟩ := HY.out pre ⟨fr, p1, p2, 1, 0⟩ W5 hJ5 hlen
    dsimp only [wrap_Lines.enc] at hy
    have y0 := (blk_cell bk5 0).trans rfl
    have y1 := (blk_cell bk5 1).trans rfl
    have y2 := (blk_cell bk5 2).trans rfl
    have y3 := (blk_cell bk5 3).trans rfl
    have y4 := (blk_cell bk5 4).trans rfl
    clear hW5 hB5 bk5 hJ5 hlen x0 x1 hbp hb hsz H0 hB
    gi_wp2
    refine hR.mono ?_
    rintro e W6 (⟨rfl, hJ6, hk6⟩ | ⟨rfl, hJx6⟩)
    ·
     have h6 := Aside0.mk hJ6
     have k6 := Aside0.mk hk6
     clear hJ6 hk6 hy hR y0 y1 y2 y3 y4
     gi_wp2
     gi_roundg (([] : List S29)).length
     case measure => simp at hkx ⊢; omega
     case rel => exact ⟨pre ++ [⟨fr, p1, p2, 1, 0⟩], ([] : List S29), p1, true, kk, rfl, rfl, Nat.le_refl _, ⟨by rw [HYS.out]; simp⟩, ⟨fun h => by first | rfl | cases h⟩, ⟨fun h => by first | exact HL3.out | cases h⟩, h6, ⟨hBw.out.trans k6.out.1⟩, ⟨k6.out.2 _ hbq.out⟩, ⟨Nat.le_trans hz5.out k6.out.1.size⟩⟩
    ·
     have h6 := Aside0.mk hJx6
     clear hJx6 hy hR y0 y1 y2 y3 y4
     gi_wp2
     refine bodyPost_ret (results_none rfl _ _ _) rfl ?_
     exact ⟨⟨_, rfl⟩, .inr ⟨_, trivial, h6.out⟩⟩
  ·
   have hr := HH.out rfl
   have e := HYS.out
   rw [hr, List.append_nil] at e
   subst e
   clear HH HL HYS hr
   gi_wp2
   go_end0
   exact ⟨⟨_, rfl⟩, .inl ⟨_, rfl, H0.out⟩⟩

/-- The last line is over at the end of all. -/
def wrap_Lines.put (ys : List S29) (m : Int) : List S29 := ys.set (ys.length - 1) ⟨(ys.getD (ys.length - 1) z29).f0, m, (ys.getD (ys.length - 1) z29).f2, (ys.getD (ys.length - 1) z29).f3, (ys.getD (ys.length - 1) z29).f4⟩
def wrap_Lines.f (k : Nat) (l0 : List S39) (a1 : Int) (a2 : Int) : Option (List S29) :=
 (wrap_Shown.f l0).bind fun n => if a2 = 0 ∨ n = 0 then some [⟨0, (l0.length : Int), n, 1, 0⟩] else if 0 ≤ n ∧ n ≤ (l0.length : Int) ∧ l0.length < 1000000 then (wrap_Lines.ll k (l0.take n.toNat) (mx a1 1) 0).bind fun ys => if ys.length < 1000000 then some (wrap_Lines.put ys (l0.length : Int)) else none else none
set_option maxHeartbeats 2000000 in
set_option maxRecDepth 100000 in
theorem wrap_Lines.one (A0 : Option Addr) (c0 : Nat) (l0 : List S39) (a1 : Int) (a2 n : Int) (w : World) (hr0 : Kd.C k39 w A0 l0.length l0) (hc0 : l0.length ≤ c0) (hn : wrap_Shown.f l0 = some n) (c1 : a2 = 0 ∨ n = 0) :
  Calls Try.prog 26 #[.slice A0 l0.length c0, .int .i64 a1, .int .i64 a2] w fun e w' => ∃ v0_ : Value, e = .returned v0_ ∧ Kd.R k29 29 w' w.heap.size (fun _ => True) v0_ [⟨0, (l0.length : Int), n, 1, 0⟩] ∧ Below w.heap.size w w' := by
 have hu29 := Try.underlying29
 have HR := Aside0.mk hr0
 have HC := Aside0.mk hc0
 have HN := Aside0.mk hn
 have HB := Aside0.mk (Below.refl w.heap.size w)
 clear hr0 hc0 hn
 go_enter Try.func26, Try.ntmps26
 by_cases c2 : a2 = 0
 ·
  clear c1
  have g0 : (a2 == 0) = true := beq_iff_eq.mpr c2
  clear c2
  go_wp2_with (first | (go_at_call 22; refine (wrap_Shown.calls _ _ l0 n _ HR.out HC.out HN.out).mono ?_; rintro e w1 ⟨rfl, hb⟩; have n0_ := Aside0.mk (below_step HB.out hb); clear HB hb; have HB := n0_; clear n0_) | ((with_reducible refine gate_dst (N := 22) rfl ?_); refine Kd.R_lit k29 _ 29 ?hg (N := 22) ?hd (xs := ([(⟨0, (l0.length : Int), n, 1, 0⟩ : S29)] : List (S29))) (inner := [.int .i64 0, .int .i64 (l0.length : Int), .int .i64 n, .int .i64 1, .int .i64 0]) (ok := fun _ => True) (okp := fun _ => True) ?hr ?hp (fun _ hk => hk) trivial (Below.refl _ _) (Nat.le_refl _) (by simp) ?_; (case hd => rfl); (case hg => rfl); (case hr => first | (go_simp; done) | (go_simp; rfl)); (case hp => exact (Reps.c5 (show Kd.M k29 _ _ _ (⟨0, (l0.length : Int), n, 1, 0⟩ : S29) [.int .i64 0, .int .i64 (l0.length : Int), .int .i64 n, .int .i64 1, .int .i64 0] from (k29_mkM _ _ _ (⟨0, (l0.length : Int), n, 1, 0⟩ : S29) )) (Reps.none _ _))); intro v1 w2 ho hb hg_ hnew_; clear hg_ hnew_; have HO := Aside0.mk (Kd.R_lower ho (below_size HB.out)); have n1_ := Aside0.mk (below_step HB.out hb); clear HB; have HB := n1_; clear n1_ hb ho))
  go_ret
  exact ⟨_, rfl, HO.out, HB.out⟩
 ·
  have c3 : n = 0 := c1.resolve_left c2
  clear c1
  have g0 : (a2 == 0) = false := beq_eq_false_iff_ne.mpr c2
  clear c2
  subst c3
  go_wp2_with (first | (go_at_call 22; refine (wrap_Shown.calls _ _ l0 0 _ HR.out HC.out HN.out).mono ?_; rintro e w1 ⟨rfl, hb⟩; have n0_ := Aside0.mk (below_step HB.out hb); clear HB hb; have HB := n0_; clear n0_) | ((with_reducible refine gate_dst (N := 22) rfl ?_); refine Kd.R_lit k29 _ 29 ?hg (N := 22) ?hd (xs := ([(⟨0, (l0.length : Int), 0, 1, 0⟩ : S29)] : List (S29))) (inner := [.int .i64 0, .int .i64 (l0.length : Int), .int .i64 0, .int .i64 1, .int .i64 0]) (ok := fun _ => True) (okp := fun _ => True) ?hr ?hp (fun _ hk => hk) trivial (Below.refl _ _) (Nat.le_refl _) (by simp) ?_; (case hd => rfl); (case hg => rfl); (case hr => first | (go_simp; done) | (go_simp; rfl)); (case hp => exact (Reps.c5 (show Kd.M k29 _ _ _ (⟨0, (l0.length : Int), 0, 1, 0⟩ : S29) [.int .i64 0, .int .i64 (l0.length : Int), .int .i64 0, .int .i64 1, .int .i64 0] from (k29_mkM _ _ _ (⟨0, (l0.length : Int), 0, 1, 0⟩ : S29) )) (Reps.none _ _))); intro v1 w2 ho hb hg_ hnew_; clear hg_ hnew_; have HO := Aside0.mk (Kd.R_lower ho (below_size HB.out)); have n1_ := Aside0.mk (below_step HB.out hb); clear HB; have HB := n1_; clear n1_ hb ho))
  go_ret
  exact ⟨_, rfl, HO.out, HB.out⟩

def wrap_Lines.cells1 (x : S29) : List Value := [.int .i64 x.f0, .int .i64 x.f1, .int .i64 x.f2, .int .i64 x.f3, .int .i64 x.f4]
def wrap_Lines.cellsL : List S29 → List Value
 | [] => []
 | y :: r => wrap_Lines.cells1 y ++ wrap_Lines.cellsL r
theorem wrap_Lines.cellsL_snoc : ∀ (a : List S29) (y : S29), wrap_Lines.cellsL (a ++ [y]) = wrap_Lines.cellsL a ++ wrap_Lines.cells1 y
 | [], y => by simp [wrap_Lines.cellsL]
 | x :: r, y => by rw [List.cons_append, wrap_Lines.cellsL, wrap_Lines.cellsL, wrap_Lines.cellsL_snoc r y, List.append_assoc]
theorem wrap_Lines.new_cells (W : World) (cs : List Value) (t : TypeId) : ∀ j u, cs[j]? = some u → (W.alloc (.cells cs.toArray t)).cell? ((⟨W.heap.size, 0, none⟩ : Addr).add j) = some u := by
 intro j u hj
 have e : (⟨W.heap.size, 0, none⟩ : Addr).add j = ⟨W.heap.size, j, none⟩ := by
  by_cases h0 : j = 0
  ·
   rw [h0]; rfl
  ·
   simp [Addr.add, h0]
 rw [e, blk_cell (blk_new W (.cells cs.toArray t)) j]
 simpa using hj
theorem wrap_Lines.repsL (M : S29 → List Value → Prop) (h : ∀ x, M x (wrap_Lines.cells1 x)) : ∀ (ys : List S29), Reps M 5 ys (wrap_Lines.cellsL ys)
 | [] => Reps.none _ _
 | y :: r => Reps.c5 (h y) (wrap_Lines.repsL M h r)
theorem wrap_Lines.R_ofOwn {W : World} {base : Nat} {v : Value} {ys : List S29} (h : W.ownsRow base 29 5 v ys.length (wrap_Lines.cellsL ys)) : Kd.R k29 29 W base (fun _ => True) v ys :=
 ⟨fun _ _ => trivial, _, h, wrap_Lines.repsL _ (fun x => k29_mkM _ _ _ x) ys⟩
theorem wrap_Lines.R_putD {W : World} {base D : Nat} {ok : Nat → Prop} {v : Value} {xs : List S29} {q : Option (List Deferred)} {o' : Obj} (h : Kd.R k29 29 W base ok v xs) (hD : W.heap[D]? = some (.deferred q)) : Kd.R k29 29 (W.putObj D o') base ok v xs :=
 Kd.R_mono (Kd.R_step (Kd.R_bound h) (fun k hk _ => World.putObj_heap_other (fun he => by
  obtain ⟨_, _, _, _, _, cells, hc⟩ := hk
  rw [he, hD] at hc
  cases hc))) (fun _ hk => hk.1)
theorem wrap_Lines.fld {W : World} {base g m cap : Nat} {ok : Nat → Prop} {xs : List S29} (h : Kd.R k29 29 W base ok (.slice (some ⟨g, 0, none⟩) m cap) xs) (n : Nat) (hn : n < m) (x' : S29) (j : Nat) (u : Value) (hj : j + 1 ≤ 5)
  (hc : wrap_Lines.cells1 x' = (wrap_Lines.cells1 (xs.getD n z29)).take j ++ [u] ++ (wrap_Lines.cells1 (xs.getD n z29)).drop (j + 1)) :
  Kd.R k29 29 (W.setCell ⟨g, n * 5 + j, none⟩ u) base ok (.slice (some ⟨g, 0, none⟩) m cap) (xs.set n x') ∧ W.grownBy (W.setCell ⟨g, n * 5 + j, none⟩ u) (some g) := by
 obtain ⟨c, hcl, hM, hcc, hfr⟩ := Kd.R_elem h z29 (n : Int) (by omega) (by omega)
 obtain rfl := k29_openM hM
 have hx : ([.int .i64 (xs.getD ((n : Int).toNat) z29).f0, .int .i64 (xs.getD ((n : Int).toNat) z29).f1, .int .i64 (xs.getD ((n : Int).toNat) z29).f2, .int .i64 (xs.getD ((n : Int).toNat) z29).f3, .int .i64 (xs.getD ((n : Int).toNat) z29).f4] : List Value) = wrap_Lines.cells1 (xs.getD n z29) := rfl
 rw [hx] at hcl hcc
 exact Kd.R_seg (d := k29) h (n : Int) (by omega) (by omega) (j := j) (seg := [u]) (x' := x') (okp := fun _ => False) hcl hcc hj (by show k29.M W base _ x' ((wrap_Lines.cells1 (xs.getD n z29)).take j ++ [u] ++ (wrap_Lines.cells1 (xs.getD n z29)).drop (j + 1)); rw [← hc]; exact k29_mkM _ _ _ x') (fun _ hk => hk.elim)
theorem wrap_Lines.cell_at {W : World} {base g m cap : Nat} {ok : Nat → Prop} {xs : List S29} (h : Kd.R k29 29 W base ok (.slice (some ⟨g, 0, none⟩) m cap) xs) (n : Nat) (hn : n < m) :
  (∀ j u, (wrap_Lines.cells1 (xs.getD n z29))[j]? = some u → W.cell? ⟨g, n * 5 + j, none⟩ = some u) ∧ ∀ j, W.frozen? ⟨g, n * 5 + j, none⟩ = false := by
 obtain ⟨c, hcl, hM, hcc, hfr⟩ := Kd.R_elem h z29 (n : Int) (by omega) (by omega)
 obtain rfl := k29_openM hM
 exact ⟨hcc, hfr⟩
theorem wrap_Lines.ll_pos : ∀ (k : Nat) (l : List S39) (wd fr : Int) (ys : List S29), wrap_Lines.ll k l wd fr = some ys → 0 < ys.length
 | 0, _, _, _, _, h => by cases h
 | k + 1, l, wd, fr, ys, h => by
  simp only [wrap_Lines.ll] at h
  obtain ⟨p, _, h⟩ := Option.bind_eq_some_iff.1 h
  split at h
  ·
   obtain rfl := Option.some.inj h
   simp
  ·
   obtain ⟨zs, _, h⟩ := Option.bind_eq_some_iff.1 h
   obtain rfl := Option.some.inj h
   simp
theorem wrap_Lines.lines_calls (S : Value) (wd : Int) (hS : S.oneCell' = true) (W : World) : Calls Try.prog 39 #[.agg #[S, .int .i64 wd]] W fun e w' => e = .returned (.func (.func 47) #[] #[.pointer (some ⟨W.heap.size, 0, none⟩)]) ∧ w' = W.alloc (.cells #[S, .int .i64 wd] 59) := by
 go_enter Try.func39, Try.ntmps39
 go_wp2
 go_ret
 exact ⟨rfl, rfl⟩
theorem wrap_Lines.stops (bp : Nat) (w : World) (A : Option Addr) (c : Nat) (l : List S39) (wd : Int) (k : Nat) (ys : List S29)
  (HR : Aside0 (Kd.C k39 w A l.length l)) (HC : Aside0 (l.length ≤ c)) (hys : Aside0 (wrap_Lines.ll k l wd 0 = some ys)) (W0 : World) (hb : Below w.heap.size w W0) (hbp : W0.heap[bp]? = some (.cells #[.slice A l.length c, .int .i64 wd] 59 (0, 0))) :
  SeqStopsK Fence.wide 5 Try.prog 47 #[.pointer (some ⟨bp, 0, none⟩)] wrap_Lines.enc (wrap_Lines.KP w.heap.size bp) (fun xs => xs = ys) (fun _ => True) ys.length W0 :=
 fun l_ J Jx W hW hJ hJx hY h0 => wrap_Lines.it 5 (by omega) l_ bp w A c l wd k ys J Jx HR HC hys hY W hJ ⟨below_weaken hb hb.size hW⟩ ⟨blk_below hbp hW⟩ h0
set_option maxHeartbeats 2000000 in
set_option maxRecDepth 100000 in
theorem wrap_Lines.two (k : Nat) (A0 : Option Addr) (c0 : Nat) (l0 : List S39) (a1 : Int) (a2 n wd : Int) (ys : List S29) (w : World) (hr0 : Kd.C k39 w A0 l0.length l0) (hc0 : l0.length ≤ c0) (hn : wrap_Shown.f l0 = some n)
  (hwd : (if a1 < 1 then 1 else a1) = wd) (c1 : a2 ≠ 0) (c2 : n ≠ 0) (q0 : 0 ≤ n) (q1 : n ≤ (l0.length : Int)) (q2 : l0.length < 1000000) (hl : wrap_Lines.ll k (l0.take n.toNat) wd 0 = some ys) (hy : ys.length < 1000000) :
  Calls Try.prog 26 #[.slice A0 l0.length c0, .int .i64 a1, .int .i64 a2] w fun e w' => ∃ v0_ : Value, e = .returned v0_ ∧ Kd.R k29 29 w' w.heap.size (fun _ => True) v0_ (wrap_Lines.put ys (l0.length : Int)) ∧ Below w.heap.size w w' := by
 have hu29 := Try.underlying29
 have HR := Aside0.mk hr0
 have HC := Aside0.mk hc0
 have HN := Aside0.mk hn
 have HB := Aside0.mk (Below.refl w.heap.size w)
 have HL := Aside0.mk hl
 have HYL := Aside0.mk hy
 have g0 : (a2 == 0) = false := beq_eq_false_iff_ne.mpr c1
 have g1 : (n == 0) = false := beq_eq_false_iff_ne.mpr c2
 obtain ⟨i0, hi0, _, hsz, _⟩ := info_parts info39
 have hcut := cut_to (P := Try.prog) 22 39 .i64 Try.underlying22 hi0 A0 l0.length c0 n q0 q1 hc0
 have HT := Aside0.mk (Kd.C_take (m := n.toNat) hr0 (by omega))
 have HTC := Aside0.mk (show (l0.take n.toNat).length ≤ c0 by rw [List.length_take]; omega)
 have hnl : n.toNat = (l0.take n.toNat).length := by rw [List.length_take]; omega
 generalize (l0.take n.toNat) = ls at HT HTC HL hnl
 rw [hnl] at hcut
 clear hr0 hc0 hn hl hy c1 c2 hsz hi0 hnl q0 q1 q2
 refine (callsIn_wide (n := 6)).1 ?_
 refine callsIn_of_wp_marks Try.func26 rfl trivial ?_ rfl
 simp only [Try.ntmps26, List.size_toArray, List.length_cons, List.length_nil, Nat.reduceAdd, Nat.reduceSub, Array.replicate_succ, Array.replicate_zero, List.push_toArray, List.append_toArray, List.nil_append, List.cons_append]
 gi_wp2_with (first | (refine ⟨trivial, ?_⟩; gi_at_call 22; refine (callsIn_wide.2 (wrap_Shown.calls _ _ l0 n _ HR.out HC.out HN.out)).mono ?_; rintro e w1 ⟨rfl, hb⟩; have n0_ := Aside0.mk (below_step HB.out hb); clear HB hb; have HB := n0_; clear n0_) | (refine ⟨trivial, ?_⟩; gi_at_call 39; refine (callsIn_wide.2 (wrap_Lines.lines_calls (.slice A0 ls.length c0) wd rfl _)).mono ?_; rintro e w2 ⟨rfl, rfl⟩))
 have bO := (Boxed.new w1 23 (.slice none 0 0)).alloc (.cells #[.slice A0 ls.length c0, .int .i64 wd] 59)
 have bP := blk_new (w1.alloc (.cells #[.slice none 0 0] 23)) (.cells #[.slice A0 ls.length c0, .int .i64 wd] 59 (0, 0))
 have hB0 : Below w.heap.size w ((w1.alloc (.cells #[.slice none 0 0] 23)).alloc (.cells #[.slice A0 ls.length c0, .int .i64 wd] 59)) := below_alloc (below_alloc HB.out _) _
 have hz1 : w.heap.size ≤ w1.heap.size := HB.out.size
 rw [World.size_alloc] at bP
 obtain ⟨W0, hW0⟩ : ∃ W0, ((w1.alloc (.cells #[.slice none 0 0] 23)).alloc (.cells #[.slice A0 ls.length c0, .int .i64 wd] 59)) = W0 := ⟨_, rfl⟩
 have hsz : W0.heap.size = w1.heap.size + 1 + 1 := by rw [← hW0, World.size_alloc, World.size_alloc]
 rw [hW0] at bO bP hB0 ⊢
 clear hW0
 obtain ⟨bo, hbo⟩ : ∃ bo, w1.heap.size = bo := ⟨_, rfl⟩
 rw [hbo] at bO bP hsz hz1 ⊢
 clear hbo
 obtain ⟨iL, hiL, hzL0, hzL1, hzL2⟩ := info_parts info29
 refine wpIn_rangeFunc_ownH (F := Fence.wide) rfl (by omega) (gf := 47) (lb := #[.pointer (some ⟨bo + 1, 0, none⟩)]) rfl trivial (enters_of Try.func47 (by kernel_rfl) rfl)
  (wrap_Lines.stops (bo + 1) w A0 c0 ls wd k ys HT HTC HL W0 hB0 bP) wrap_Lines.KP_t (wrap_Lines.KP_b hB0.size (by omega)) (Below.refl _ _) (fun _ => rfl)
  (fun pre W => ((∃ v, Boxed W bo 23 v ∧ W.ownsRow w.heap.size 29 5 v pre.length (wrap_Lines.cellsL pre) ∧ True) ∧ W.heap[bo + 1]? = some (.cells #[.slice A0 ls.length c0, .int .i64 wd] 59 (0, 0))) ∧ Below w.heap.size w W)
  (fun _ _ _ => False)
  (OwnFrom.and (OwnFrom.and (Own.from (holdsRow_own w.heap.size bo 23 29 5 (fun pre => pre.length) wrap_Lines.cellsL (fun _ _ => True)) _) (fun s X Y row hs hg hr => blk_grown hs hg (fun e => by
   obtain ⟨_, o, ho, hc⟩ := hr _ e.symm
   have e2 := hs.symm.trans ho
   injection e2 with e2
   rw [← e2] at hc
   cases hc))) (ownFrom_below (Nat.le_refl _) (by omega)))
  (fun _ _ _ _ _ hs _ _ => hs)
  ⟨⟨⟨_, bO, World.ownsRow_nil _ _ _ _, trivial⟩, bP⟩, hB0⟩
  (fun x a' W => ∃ Bx, bo + 1 < Bx ∧ W.heap[Bx]? = some (.cells #[.int .i64 x.f0, .int .i64 x.f1, .int .i64 x.f2, .int .i64 x.f3, .int .i64 x.f4] 29 (0, 0)) ∧ a' = { tmps := #[Value.slice A0 l0.length c0, Value.int IntKind.i64 a1, Value.int IntKind.i64 a2, undef, undef, undef, Value.slice none 0 0, Value.int IntKind.i64 n, Value.pointer (some { block := bo, off := 0 }), Value.pointer (some ⟨Bx, 0, none⟩), Value.slice A0 l0.length c0, Value.int IntKind.i64 n, Value.int IntKind.i64 a2, Value.bool false, Value.bool false, Value.int IntKind.i64 n, Value.bool false, Value.bool false, undef, undef, undef, undef, undef, Value.slice A0 l0.length c0, Value.int IntKind.i64 n, Value.slice A0 ls.length c0, Value.int IntKind.i64 a1, Value.int IntKind.i64 wd, Value.agg #[Value.slice A0 ls.length c0, Value.int IntKind.i64 wd], Value.func (Fn.func 47) #[] #[Value.pointer (some { block := bo + 1, off := 0 })], .agg #[.int .i64 x.f0, .int .i64 x.f1, .int .i64 x.f2, .int .i64 x.f3, .int .i64 x.f4], undef, undef, undef, undef, undef, undef, undef, undef, undef, undef, undef, undef, undef], defers := [] })
  (fun x a' _ X Y row hs hg hr => by
   obtain ⟨Bx, h1, h2, h3⟩ := hs
   exact ⟨Bx, h1, blk_grown h2 hg (fun e => by
    obtain ⟨_, o, ho, hc⟩ := hr _ e.symm
    have e2 := h2.symm.trans ho
    injection e2 with e2
    rw [← e2] at hc
    cases hc), h3⟩)
  ?assign ?body ?done ?stop
 case assign =>
  rintro l_ pre x W K ⟨⟨⟨v, hv, hrow, _⟩, hbp⟩, hB⟩ hK
  obtain ⟨x0, x1, x2, x3, x4⟩ := x
  dsimp only [wrap_Lines.enc] at hK ⊢
  have hbo := blk_lt hbp
  gi_wp2
  exact hK _ _ ((KeepsOthers.alloc _ _).from _) ⟨(Below.refl _ W).alloc hB.size _, fun o ho => blk_alloc ho _⟩ ⟨⟨⟨v, hv.alloc _, hrow.alloc _, trivial⟩, blk_alloc hbp _⟩, hB.alloc hB.size _⟩ ⟨W.heap.size, hbo, blk_new W _, rfl⟩
 case body =>
  rintro l_ pre x a' W hl ⟨r, hr⟩ ⟨⟨⟨v, hv, hrow, _⟩, hbp⟩, hB⟩ ⟨Bx, hBx, bX, rfl⟩ hlt
  obtain ⟨x0, x1, x2, x3, x4⟩ := x
  dsimp only at bX ⊢
  have hY := HYL.out
  have y0 := (blk_cell bX 0).trans rfl
  have y1 := (blk_cell bX 1).trans rfl
  have y2 := (blk_cell bX 2).trans rfl
  have y3 := (blk_cell bX 3).trans rfl
  have y4 := (blk_cell bX 4).trans rfl
  have hc := hv.cell
  have hne : some (bo + 1) ≠ v.ownBlock := fun e => by
   obtain ⟨cells, hc2⟩ := own_typed hrow _ e.symm
   have e2 := hbp.symm.trans hc2
   simp at e2
  have NE := Aside0.mk hne
  have BP := Aside0.mk hbp
  have hbs := hB.size
  clear bX hne hbp hr
  gi_wp2_with (gi_at_builtin; refine wpListIn_append_own _ rfl _ _ 23 rfl w.heap.size 29 iL (.agg #[.int .i64 0, .int .i64 0, .int .i64 0, .int .i64 0, .int .i64 0]) 5 40 Try.underlying23 hiL hzL0 hzL1 hzL2 rfl (by decide) _ _ _ rfl (hrow.alloc _) ⟨W.heap.size, 0, none⟩ 1 1 [.int .i64 x0, .int .i64 x1, .int .i64 x2, .int .i64 x3, .int .i64 x4] rfl rfl (wrap_Lines.new_cells _ _ _) (by simp [Value.oneCell']) (by unfold maxLen; omega) (by omega) (by simp; omega) ?_; intro v' w1 hown' hgrow _; obtain ⟨g', cap', rfl⟩ := ownsRow_succ hown'; obtain ⟨hv1, hv2, hr2, hk2, hb2⟩ := hv.appended (by decide) hrow hbs hz1 hown' hgrow; have hc1 := hv1.cell; have hf1 := hv1.frozen)
  have bq := blk_far (blk_grown (blk_alloc BP.out _) hgrow NE.out) (p := ⟨bo, 0, none⟩) (by show bo + 1 ≠ bo; omega) (.slice (some ⟨g', 0, none⟩) (pre.length + 1) cap')
  exact ⟨hk2.from _, ⟨hb2, fun o ho => by rw [BP.out] at ho; cases ho; exact bq⟩, ⟨⟨_, hv2, by simpa [wrap_Lines.cellsL_snoc, wrap_Lines.cells1] using hr2, trivial⟩, bq⟩, hB.trans hb2⟩
 case done =>
  rintro D xs W hD rfl ⟨⟨⟨v, hv, hrow, _⟩, hbp⟩, hB⟩ hK
  have hY := HYL.out
  obtain ⟨nn, hnn⟩ : ∃ nn, xs.length = nn + 1 := ⟨xs.length - 1, by have := wrap_Lines.ll_pos k ls wd 0 xs HL.out; omega⟩
  have hR := wrap_Lines.R_ofOwn hrow
  rw [hnn] at hrow
  obtain ⟨g, cap, rfl⟩ := ownsRow_succ hrow
  have hc := hv.cell
  have hcl := (wrap_Lines.cell_at hR nn (by omega)).1 1 _ rfl
  have hfr := (wrap_Lines.cell_at hR nn (by omega)).2 1
  have hRR := Aside0.mk hR
  have HNN := Aside0.mk hnn
  have hgb : bo ≠ g := fun e => by
   obtain ⟨cells, hc2⟩ := own_typed hrow g rfl
   rw [← e] at hc2
   have e2 := hv.symm.trans hc2
   simp at e2
  have hbn : (nn : Int) < 1000000 := by omega
  have h0n : 0 ≤ (nn : Int) := Int.natCast_nonneg nn
  have HY2 := Aside0.mk hY
  clear hR hrow hnn hbp hY
  gi_wp2
  have hDg : D ≠ g := fun e => by
   obtain ⟨_, _, _, _, _, cells, hc2⟩ := (Kd.R_bound hRR.out).1 g rfl
   rw [← e, hK] at hc2
   cases hc2
  have hK2 : (W.setCell { block := g, off := nn * 5 + 1 } (Value.int IntKind.i64 ↑l0.length)).heap[D]? = some (.deferred (some [])) := (Below.heap_setCell W ⟨g, nn * 5 + 1, none⟩ _ D hDg).trans hK
  refine ⟨by simp, .inl ⟨_, _, rfl, run_takeDeferred hK2, ?_⟩⟩
  obtain ⟨r1, r2⟩ := wrap_Lines.fld hRR.out nn (Nat.lt_succ_self nn) ⟨(xs.getD nn z29).f0, (l0.length : Int), (xs.getD nn z29).f2, (xs.getD nn z29).f3, (xs.getD nn z29).f4⟩ 1 (.int .i64 (l0.length : Int)) (by omega) rfl
  have hput : xs.set nn ⟨(xs.getD nn z29).f0, (l0.length : Int), (xs.getD nn z29).f2, (xs.getD nn z29).f3, (xs.getD nn z29).f4⟩ = wrap_Lines.put xs (l0.length : Int) := by
   unfold wrap_Lines.put
   rw [HNN.out, Nat.add_sub_cancel]
  rw [hput] at r1
  exact ⟨_, results_tmp rfl _ _ _, .slice (some ⟨g, 0, none⟩) (nn + 1) cap, rfl, wrap_Lines.R_putD r1 hK2, (hB.setCell (p := ⟨g, nn * 5 + 1, none⟩) (Kd.R_base hRR.out g rfl) _).trans (belowK_b (w := w) (Nat.le_refl _) _ D _ _ (Nat.le_trans hB0.size hD) hK2 rfl rfl)⟩
 case stop =>
  rintro D c pre W _ _ h _
  exact h.elim
theorem wrap_Lines.pl_mono : ∀ (k : Nat) (l : List S39) (wd fr word en at_ : Int), LeO (wrap_Lines.pl k l wd fr word en at_) (wrap_Lines.pl (k + 1) l wd fr word en at_)
 | 0, _, _, _, _, _, _ => LeO.none _
 | k + 1, l, wd, fr, word, en, at_ => LeO.ite (LeO.ite (LeO.ite (LeO.bind (wrap_paragraph_blanks.mono _ _ _ _) (fun _ => LeO.refl _)) (wrap_Lines.pl_mono k l wd fr word en (at_ - 1))) (LeO.none _)) (LeO.refl _)
theorem wrap_Lines.part_mono (k : Nat) (l : List S39) (wd fr : Int) : LeO (wrap_Lines.part k l wd fr) (wrap_Lines.part (k + 1) l wd fr) := by
 unfold wrap_Lines.part
 exact LeO.bind (wrap_Fits.mono _ _ _ _) (fun en => LeO.ite (LeO.refl _) (LeO.ite (wrap_Lines.pl_mono _ _ _ _ _ _ _) (LeO.none _)))
theorem wrap_Lines.ll_mono : ∀ (k : Nat) (l : List S39) (wd fr : Int), LeO (wrap_Lines.ll k l wd fr) (wrap_Lines.ll (k + 1) l wd fr)
 | 0, _, _, _ => LeO.none _
 | k + 1, l, wd, fr => LeO.bind (wrap_Lines.part_mono k l wd fr) (fun p => LeO.ite (LeO.refl _) (LeO.bind (wrap_Lines.ll_mono k l wd p.1) (fun _ => LeO.refl _)))
theorem wrap_Lines.mono : ∀ a0 a1 a2 k, LeO (wrap_Lines.f k a0 a1 a2) (wrap_Lines.f (k + 1) a0 a1 a2) := by
 intro a0 a1 a2 k
 unfold wrap_Lines.f
 exact LeO.bind (LeO.refl _) (fun n => LeO.ite (LeO.refl _) (LeO.ite (LeO.bind (wrap_Lines.ll_mono k _ _ _) (fun _ => LeO.refl _)) (LeO.none _)))
theorem wrap_Lines.calls (k : Nat) (A0 : Option Addr) (c0 : Nat) (l0 : List S39) (a1 : Int) (a2 : Int) (r : List S29) (w : World) (hr0 : Kd.C k39 w A0 l0.length l0) (hc0 : l0.length ≤ c0) (h : wrap_Lines.f k l0 a1 a2 = some r) :
  Calls Try.prog 26 #[.slice A0 l0.length c0, .int .i64 a1, .int .i64 a2] w fun e w' => ∃ v0_ : Value, e = .returned v0_ ∧ Kd.R k29 29 w' w.heap.size (fun _ => True) v0_ r ∧ Below w.heap.size w w' := by
 unfold wrap_Lines.f at h
 obtain ⟨n, hn, h⟩ := Option.bind_eq_some_iff.1 h
 by_cases c1 : a2 = 0 ∨ n = 0
 ·
  rw [if_pos c1] at h
  obtain rfl := Option.some.inj h
  exact wrap_Lines.one A0 c0 l0 a1 a2 n w hr0 hc0 hn c1
 ·
  rw [if_neg c1] at h
  by_cases c2 : 0 ≤ n ∧ n ≤ (l0.length : Int) ∧ l0.length < 1000000
  ·
   rw [if_pos c2] at h
   obtain ⟨ys, hy, h⟩ := Option.bind_eq_some_iff.1 h
   by_cases c3 : ys.length < 1000000
   ·
    rw [if_pos c3] at h
    obtain rfl := Option.some.inj h
    exact wrap_Lines.two k A0 c0 l0 a1 a2 n _ ys w hr0 hc0 hn rfl (fun h => c1 (.inl h)) (fun h => c1 (.inr h)) c2.1 c2.2.1 c2.2.2 hy c3
   ·
    rw [if_neg c3] at h
    cases h
  ·
   rw [if_neg c2] at h
   cases h
end


/-! ### parquetryref05_in: function 64 -/
def parquetryref05_in.l0 : Nat → List Int → Int → Int → Option (Bool)
 | 0, _, _, _ => none
 | k + 1, x0, x1, x5 => if x5 < (x0.length : Int) then (if 0 ≤ x5 then (if (rd x0 x5) ≤ x1 then (if 0 ≤ (wrap64 (x5 + 1)) then (if (wrap64 (x5 + 1)) < (x0.length : Int) then (if x1 ≤ (rd x0 (wrap64 (x5 + 1))) then (some true) else (parquetryref05_in.l0 k x0 x1 (wrap64 (x5 + 2)))) else (none)) else (none)) else (parquetryref05_in.l0 k x0 x1 (wrap64 (x5 + 2)))) else (none)) else (some false)
def parquetryref05_in.f (k : Nat) (l0 : List Int) (a1 : Int) : Option (Bool) := parquetryref05_in.l0 k l0 a1 0
theorem parquetryref05_in.mono_l : ∀ k, (∀ y0 y1 y2, LeO (parquetryref05_in.l0 k y0 y1 y2) (parquetryref05_in.l0 (k + 1) y0 y1 y2))
 | 0 => fun _ _ _ r h => by simp [parquetryref05_in.l0] at h
 | k + 1 => by
  have ih0 := parquetryref05_in.mono_l k
  ·
   intro y0 y1 y2
   unfold parquetryref05_in.l0
   repeat' first
   | (with_reducible exact ih0 _ _ _)
   | (with_reducible exact LeO.refl _)
   | (with_reducible exact LeO.none _)
   | (with_reducible refine LeO.ite ?_ ?_)
   | (with_reducible refine LeO.bind ?_ (fun _ => ?_))
   | exact ih0 _ _ _
   | exact LeO.none _
   | refine LeO.ite ?_ ?_
   | refine LeO.bind ?_ (fun _ => ?_)
theorem parquetryref05_in.mono : ∀ a0 a1 k, LeO (parquetryref05_in.f k a0 a1) (parquetryref05_in.f (k + 1) a0 a1) := by
 intro a0 a1 k
 have ih0 := parquetryref05_in.mono_l k
 unfold parquetryref05_in.f
 repeat' first
   | (with_reducible exact ih0 _ _ _)
   | (with_reducible exact LeO.refl _)
   | (with_reducible exact LeO.none _)
   | (with_reducible refine LeO.ite ?_ ?_)
   | (with_reducible refine LeO.bind ?_ (fun _ => ?_))
   | exact ih0 _ _ _
   | exact LeO.none _
   | refine LeO.ite ?_ ?_
   | refine LeO.bind ?_ (fun _ => ?_)
set_option maxHeartbeats 8000000 in
set_option maxRecDepth 100000 in
theorem parquetryref05_in.calls (k : Nat) (A0 : Option Addr) (c0 : Nat) (l0 : List Int) (a1 : Int) (r : Bool) (w : World) (hr0 : Kd.C (Kd.int .i64) w A0 l0.length l0) (hc0 : l0.length ≤ c0) (h : parquetryref05_in.f k l0 a1 = some r) :
  Calls Try.prog 64 #[.slice A0 l0.length c0, .int .i64 a1] w fun e w' => e = .returned (.bool r) ∧ Drawn0 w w' := by
 have HR0 := Aside0.mk hr0
 have HC0 := Aside0.mk hc0
 clear hr0 hc0
 have H : (parquetryref05_in.l0 k l0 a1 0) = some r := h
 clear h
 have H' := Aside0.mk H
 clear H
 go_enter Try.func64, Try.ntmps64
 go_wp2
 go_loopg [5] k (fun kq v5 w' => ∃ (x5_1 : Int), v5 = .int .i64 x5_1 ∧ Aside0 (parquetryref05_in.l0 kq l0 a1 x5_1 = some r) ∧ Aside0 (kq ≤ k) ∧ Drawn0 w w')
 case atStart => exact ⟨(0), (by first | rfl | (simp; done) | (simp [*]; done)), H', ⟨Nat.le_refl _⟩, by repeat (first | exact Drawn0.refl _ | apply Drawn0.step)⟩
 case round =>
  clear H'
  try clear p2
  obtain ⟨x5_1, rfl, HA, HK1, ⟨m1, rfl⟩⟩ := hrel
  cases gk with
  | zero => exact absurd HA.out (by simp [parquetryref05_in.l0])
  | succ k1 =>
   have H := HA.out
   clear HA
   simp only [parquetryref05_in.l0] at H
   by_cases c3 : x5_1 < (l0.length : Int)
   ·
    rw [if_pos c3] at H
    have c3b0 : decide (x5_1 < (l0.length : Int)) = true := decide_eq_true c3
    clear c3
    by_cases c4 : 0 ≤ x5_1
    ·
     rw [if_pos c4] at H
     have c4b0 : decide (0 ≤ x5_1) = true := decide_eq_true c4
     clear c4
     by_cases c5 : (rd l0 x5_1) ≤ a1
     ·
      rw [if_pos c5] at H
      have c5b0 : decide ((rd l0 x5_1) ≤ a1) = true := decide_eq_true c5
      clear c5
      obtain ⟨ji6, hji6⟩ : ∃ j_ : Int, (wrap64 (x5_1 + 1)) = j_ := ⟨_, rfl⟩
      replace H : (if 0 ≤ (ji6) then (if (ji6) < (l0.length : Int) then (if a1 ≤ (rd l0 (ji6)) then (some true) else (parquetryref05_in.l0 k1 l0 a1 (wrap64 (x5_1 + 2)))) else (none)) else (none)) = some r := by first | (rw [hji6] at H; exact H) | (simp only [hji6] at H ⊢; exact H)
      have hji6w : (IntKind.i64.wrap (x5_1 + 1)) = ji6 := (i64_w _).trans hji6
      by_cases c7 : 0 ≤ (ji6)
      ·
       rw [if_pos c7] at H
       have c7b0 : decide (0 ≤ (ji6)) = true := decide_eq_true c7
       clear c7
       by_cases c8 : (ji6) < (l0.length : Int)
       ·
        rw [if_pos c8] at H
        have c8b0 : decide ((ji6) < (l0.length : Int)) = true := decide_eq_true c8
        clear c8
        by_cases c9 : a1 ≤ (rd l0 (ji6))
        ·
         rw [if_pos c9] at H
         have c9b0 : decide (a1 ≤ (rd l0 (ji6))) = true := decide_eq_true c9
         clear c9
         obtain rfl := Option.some.inj H
         have p112 : 0 ≤ (x5_1 : Int) := of_decide_eq_true (by first | (with_reducible assumption) | assumption)
         have q112 : x5_1 < (l0.length : Int) := of_decide_eq_true (by first | (with_reducible assumption) | assumption)
         obtain ⟨ad112, e112, hx112_0⟩ := Kd.at_int HR0.out x5_1 p112 q112
         cases e112
         replace p112 := eq_true p112
         replace q112 := eq_true q112
         have p113 : 0 ≤ ((ji6) : Int) := of_decide_eq_true (by first | (with_reducible assumption) | assumption)
         have q113 : (ji6) < (l0.length : Int) := of_decide_eq_true (by first | (with_reducible assumption) | assumption)
         obtain ⟨ad113, e113, hx113_0⟩ := Kd.at_int HR0.out (ji6) p113 q113
         obtain rfl : ad112 = ad113 := (by injection e113)
         replace p113 := eq_true p113
         replace q113 := eq_true q113
         go_wp2
         go_ret
         exact ⟨by first | rfl | (simp; done) | (simp only [← hji6] <;> (first | rfl | simp)) | (simp [*]; done), by repeat (first | exact Drawn0.refl _ | apply Drawn0.step)⟩
        ·
         rw [if_neg c9] at H
         have c9b0 : decide (a1 ≤ (rd l0 (ji6))) = false := decide_eq_false c9
         clear c9
         have H' := Aside0.mk H
         clear H
         have p112 : 0 ≤ (x5_1 : Int) := of_decide_eq_true (by first | (with_reducible assumption) | assumption)
         have q112 : x5_1 < (l0.length : Int) := of_decide_eq_true (by first | (with_reducible assumption) | assumption)
         obtain ⟨ad112, e112, hx112_0⟩ := Kd.at_int HR0.out x5_1 p112 q112
         cases e112
         replace p112 := eq_true p112
         replace q112 := eq_true q112
         have p113 : 0 ≤ ((ji6) : Int) := of_decide_eq_true (by first | (with_reducible assumption) | assumption)
         have q113 : (ji6) < (l0.length : Int) := of_decide_eq_true (by first | (with_reducible assumption) | assumption)
         obtain ⟨ad113, e113, hx113_0⟩ := Kd.at_int HR0.out (ji6) p113 q113
         obtain rfl : ad112 = ad113 := (by injection e113)
         replace p113 := eq_true p113
         replace q113 := eq_true q113
         go_wp2
         go_roundg k1
         case measure => have := HK1.out; omega
         case rel => exact ⟨(wrap64 (x5_1 + 2)), (by first | rfl | (simp; done) | (simp [*]; done)), H', ⟨by have := HK1.out; omega⟩, by repeat (first | exact Drawn0.refl _ | apply Drawn0.step)⟩
       ·
        rw [if_neg c8] at H
        exact absurd H (by simp)
      ·
       rw [if_neg c7] at H
       exact absurd H (by simp)
     ·
      rw [if_neg c5] at H
      have c5b0 : decide ((rd l0 x5_1) ≤ a1) = false := decide_eq_false c5
      clear c5
      have H' := Aside0.mk H
      clear H
      have p112 : 0 ≤ (x5_1 : Int) := of_decide_eq_true (by first | (with_reducible assumption) | assumption)
      have q112 : x5_1 < (l0.length : Int) := of_decide_eq_true (by first | (with_reducible assumption) | assumption)
      obtain ⟨ad112, e112, hx112_0⟩ := Kd.at_int HR0.out x5_1 p112 q112
      cases e112
      replace p112 := eq_true p112
      replace q112 := eq_true q112
      go_wp2
      go_roundg k1
      case measure => have := HK1.out; omega
      case rel => exact ⟨(wrap64 (x5_1 + 2)), (by first | rfl | (simp; done) | (simp [*]; done)), H', ⟨by have := HK1.out; omega⟩, by repeat (first | exact Drawn0.refl _ | apply Drawn0.step)⟩
    ·
     rw [if_neg c4] at H
     exact absurd H (by simp)
   ·
    rw [if_neg c3] at H
    have c3b0 : decide (x5_1 < (l0.length : Int)) = false := decide_eq_false c3
    clear c3
    obtain rfl := Option.some.inj H
    go_wp2
    go_ret
    exact ⟨by first | rfl | (simp; done) | (simp [*]; done), by repeat (first | exact Drawn0.refl _ | apply Drawn0.step)⟩

/-! ### parquetryref05_Row: function 65: by hand -/
def parquetryref05_Row.L1 : List Int := [13, 13]
def parquetryref05_Row.L2 : List Int := [10, 10]
def parquetryref05_Row.L5 : List Int := [8205, 8205]
def parquetryref05_Row.L3 : List Int := [0, 9, 11, 12, 14, 31, 127, 159, 173, 173, 1564, 1564, 6158, 6158, 8203, 8203, 8206, 8207, 8232, 8238, 8288, 8303, 65279, 65279, 65520, 65531, 917504, 917535, 917632, 917759]
def parquetryref05_Row.L4 : List Int := [768, 879, 1155, 1161, 1425, 1469, 1471, 1471, 1473, 1474, 1476, 1477, 1479, 1479, 1552, 1562, 1611, 1631, 1648, 1648, 1750, 1756, 1759, 1764, 1767, 1768, 1770, 1773, 2362, 2362, 2364, 2364, 2369, 2376, 2381, 2381, 2494, 2494, 3633, 3633, 3636, 3642, 3655, 3662, 6832, 6862, 7616, 7679, 8204, 8204, 8400, 8432, 12330, 12335, 12441, 12442, 42607, 42610, 64286, 64286, 65024, 65039, 65056, 65071, 65438, 65439, 127995, 127999, 917536, 917631, 917760, 917999]
def parquetryref05_Row.L6 : List Int := [127462, 127487]
def parquetryref05_Row.L7 : List Int := [1536, 1541, 1757, 1757, 1807, 1807, 2274, 2274, 3406, 3406]
def parquetryref05_Row.L8 : List Int := [2307, 2307, 2363, 2363, 2366, 2368, 2377, 2380, 2382, 2383, 2434, 2435, 3635, 3635, 3763, 3763]
def parquetryref05_Row.L9 : List Int := [4352, 4447, 43360, 43388]
def parquetryref05_Row.L10 : List Int := [4448, 4519, 55216, 55238]
def parquetryref05_Row.L11 : List Int := [4520, 4607, 55243, 55291]
def parquetryref05_Row.f (a0 : Int) : Option (List Int) := if a0 = 1 then some parquetryref05_Row.L1 else if a0 = 2 then some parquetryref05_Row.L2 else if a0 = 5 then some parquetryref05_Row.L5 else if a0 = 3 then some parquetryref05_Row.L3 else if a0 = 4 then some parquetryref05_Row.L4 else if a0 = 6 then some parquetryref05_Row.L6 else if a0 = 7 then some parquetryref05_Row.L7 else if a0 = 8 then some parquetryref05_Row.L8 else if a0 = 9 then some parquetryref05_Row.L9 else if a0 = 10 then some parquetryref05_Row.L10 else if a0 = 11 then some parquetryref05_Row.L11 else some []
section
open Go.Proofs.YtieffcjbbhigbaaH
set_option maxHeartbeats 4000000 in
set_option maxRecDepth 100000 in
theorem parquetryref05_Row.calls (a0 : Int) (r : List Int) (w : World) (h : parquetryref05_Row.f a0 = some r) :
  Calls Try.prog 65 #[.int .i64 a0] w fun e w' => ∃ v0_ : Value, e = .returned (v0_) ∧ Kd.R (Kd.int .i64) 3 w' w.heap.size (fun _ => True) v0_ r ∧ Below w.heap.size w w' := by
 have HB := Aside0.mk (Below.refl w.heap.size w)
 unfold parquetryref05_Row.f at h
 by_cases c1 : a0 = 1
 ·
  subst c1
  obtain rfl : parquetryref05_Row.L1 = r := by simpa using h
  clear h
  go_enter Try.func65, Try.ntmps65
  go_wp2_with (first | ((with_reducible refine gate_dst (N := 6) rfl ?_); refine row_event w.heap.size 3 rfl (N := 6) rfl 74 2 .i64 parquetryref05_Row.L1 ?ho (by kernel_rfl) Try.underlying74 (by kernel_rfl) (by kernel_rfl) (by decide) (by decide) HB.out (Nat.le_refl _) ?_; (case ho => kernel_rfl); intro v1 w1 hO1 hB1 hg1 hb1; have HO := Aside0.mk hO1; have HB1 := Aside0.mk hB1; clear hO1 hB1 hg1 hb1))
  go_ret
  exact ⟨_, rfl, HO.out, HB1.out⟩
 have b1 : (a0 == 1) = false := beq_eq_false_iff_ne.2 c1
 rw [if_neg c1] at h
 clear c1
 by_cases c2 : a0 = 2
 ·
  subst c2
  obtain rfl : parquetryref05_Row.L2 = r := by simpa using h
  clear h
  go_enter Try.func65, Try.ntmps65
  go_wp2_with (first | ((with_reducible refine gate_dst (N := 9) rfl ?_); refine row_event w.heap.size 3 rfl (N := 9) rfl 74 2 .i64 parquetryref05_Row.L2 ?ho (by kernel_rfl) Try.underlying74 (by kernel_rfl) (by kernel_rfl) (by decide) (by decide) HB.out (Nat.le_refl _) ?_; (case ho => kernel_rfl); intro v1 w1 hO1 hB1 hg1 hb1; have HO := Aside0.mk hO1; have HB1 := Aside0.mk hB1; clear hO1 hB1 hg1 hb1))
  go_ret
  exact ⟨_, rfl, HO.out, HB1.out⟩
 have b2 : (a0 == 2) = false := beq_eq_false_iff_ne.2 c2
 rw [if_neg c2] at h
 clear c2
 by_cases c5 : a0 = 5
 ·
  subst c5
  obtain rfl : parquetryref05_Row.L5 = r := by simpa using h
  clear h
  go_enter Try.func65, Try.ntmps65
  go_wp2_with (first | ((with_reducible refine gate_dst (N := 12) rfl ?_); refine row_event w.heap.size 3 rfl (N := 12) rfl 74 2 .i64 parquetryref05_Row.L5 ?ho (by kernel_rfl) Try.underlying74 (by kernel_rfl) (by kernel_rfl) (by decide) (by decide) HB.out (Nat.le_refl _) ?_; (case ho => kernel_rfl); intro v1 w1 hO1 hB1 hg1 hb1; have HO := Aside0.mk hO1; have HB1 := Aside0.mk hB1; clear hO1 hB1 hg1 hb1))
  go_ret
  exact ⟨_, rfl, HO.out, HB1.out⟩
 have b5 : (a0 == 5) = false := beq_eq_false_iff_ne.2 c5
 rw [if_neg c5] at h
 clear c5
 by_cases c3 : a0 = 3
 ·
  subst c3
  obtain rfl : parquetryref05_Row.L3 = r := by simpa using h
  clear h
  go_enter Try.func65, Try.ntmps65
  go_wp2_with (first | ((with_reducible refine gate_dst (N := 15) rfl ?_); refine row_event w.heap.size 3 rfl (N := 15) rfl 74 30 .i64 parquetryref05_Row.L3 ?ho (by kernel_rfl) Try.underlying74 (by kernel_rfl) (by kernel_rfl) (by decide) (by decide) HB.out (Nat.le_refl _) ?_; (case ho => kernel_rfl); intro v1 w1 hO1 hB1 hg1 hb1; have HO := Aside0.mk hO1; have HB1 := Aside0.mk hB1; clear hO1 hB1 hg1 hb1))
  go_ret
  exact ⟨_, rfl, HO.out, HB1.out⟩
 have b3 : (a0 == 3) = false := beq_eq_false_iff_ne.2 c3
 rw [if_neg c3] at h
 clear c3
 by_cases c4 : a0 = 4
 ·
  subst c4
  obtain rfl : parquetryref05_Row.L4 = r := by simpa using h
  clear h
  go_enter Try.func65, Try.ntmps65
  go_wp2_with (first | ((with_reducible refine gate_dst (N := 18) rfl ?_); refine row_event w.heap.size 3 rfl (N := 18) rfl 74 72 .i64 parquetryref05_Row.L4 ?ho (by kernel_rfl) Try.underlying74 (by kernel_rfl) (by kernel_rfl) (by decide) (by decide) HB.out (Nat.le_refl _) ?_; (case ho => kernel_rfl); intro v1 w1 hO1 hB1 hg1 hb1; have HO := Aside0.mk hO1; have HB1 := Aside0.mk hB1; clear hO1 hB1 hg1 hb1))
  go_ret
  exact ⟨_, rfl, HO.out, HB1.out⟩
 have b4 : (a0 == 4) = false := beq_eq_false_iff_ne.2 c4
 rw [if_neg c4] at h
 clear c4
 by_cases c6 : a0 = 6
 ·
  subst c6
  obtain rfl : parquetryref05_Row.L6 = r := by simpa using h
  clear h
  go_enter Try.func65, Try.ntmps65
  go_wp2_with (first | ((with_reducible refine gate_dst (N := 21) rfl ?_); refine row_event w.heap.size 3 rfl (N := 21) rfl 74 2 .i64 parquetryref05_Row.L6 ?ho (by kernel_rfl) Try.underlying74 (by kernel_rfl) (by kernel_rfl) (by decide) (by decide) HB.out (Nat.le_refl _) ?_; (case ho => kernel_rfl); intro v1 w1 hO1 hB1 hg1 hb1; have HO := Aside0.mk hO1; have HB1 := Aside0.mk hB1; clear hO1 hB1 hg1 hb1))
  go_ret
  exact ⟨_, rfl, HO.out, HB1.out⟩
 have b6 : (a0 == 6) = false := beq_eq_false_iff_ne.2 c6
 rw [if_neg c6] at h
 clear c6
 by_cases c7 : a0 = 7
 ·
  subst c7
  obtain rfl : parquetryref05_Row.L7 = r := by simpa using h
  clear h
  go_enter Try.func65, Try.ntmps65
  go_wp2_with (first | ((with_reducible refine gate_dst (N := 24) rfl ?_); refine row_event w.heap.size 3 rfl (N := 24) rfl 74 10 .i64 parquetryref05_Row.L7 ?ho (by kernel_rfl) Try.underlying74 (by kernel_rfl) (by kernel_rfl) (by decide) (by decide) HB.out (Nat.le_refl _) ?_; (case ho => kernel_rfl); intro v1 w1 hO1 hB1 hg1 hb1; have HO := Aside0.mk hO1; have HB1 := Aside0.mk hB1; clear hO1 hB1 hg1 hb1))
  go_ret
  exact ⟨_, rfl, HO.out, HB1.out⟩
 have b7 : (a0 == 7) = false := beq_eq_false_iff_ne.2 c7
 rw [if_neg c7] at h
 clear c7
 by_cases c8 : a0 = 8
 ·
  subst c8
  obtain rfl : parquetryref05_Row.L8 = r := by simpa using h
  clear h
  go_enter Try.func65, Try.ntmps65
  go_wp2_with (first | ((with_reducible refine gate_dst (N := 27) rfl ?_); refine row_event w.heap.size 3 rfl (N := 27) rfl 74 16 .i64 parquetryref05_Row.L8 ?ho (by kernel_rfl) Try.underlying74 (by kernel_rfl) (by kernel_rfl) (by decide) (by decide) HB.out (Nat.le_refl _) ?_; (case ho => kernel_rfl); intro v1 w1 hO1 hB1 hg1 hb1; have HO := Aside0.mk hO1; have HB1 := Aside0.mk hB1; clear hO1 hB1 hg1 hb1))
  go_ret
  exact ⟨_, rfl, HO.out, HB1.out⟩
 have b8 : (a0 == 8) = false := beq_eq_false_iff_ne.2 c8
 rw [if_neg c8] at h
 clear c8
 by_cases c9 : a0 = 9
 ·
  subst c9
  obtain rfl : parquetryref05_Row.L9 = r := by simpa using h
  clear h
  go_enter Try.func65, Try.ntmps65
  go_wp2_with (first | ((with_reducible refine gate_dst (N := 30) rfl ?_); refine row_event w.heap.size 3 rfl (N := 30) rfl 74 4 .i64 parquetryref05_Row.L9 ?ho (by kernel_rfl) Try.underlying74 (by kernel_rfl) (by kernel_rfl) (by decide) (by decide) HB.out (Nat.le_refl _) ?_; (case ho => kernel_rfl); intro v1 w1 hO1 hB1 hg1 hb1; have HO := Aside0.mk hO1; have HB1 := Aside0.mk hB1; clear hO1 hB1 hg1 hb1))
  go_ret
  exact ⟨_, rfl, HO.out, HB1.out⟩
 have b9 : (a0 == 9) = false := beq_eq_false_iff_ne.2 c9
 rw [if_neg c9] at h
 clear c9
 by_cases c10 : a0 = 10
 ·
  subst c10
  obtain rfl : parquetryref05_Row.L10 = r := by simpa using h
  clear h
  go_enter Try.func65, Try.ntmps65
  go_wp2_with (first | ((with_reducible refine gate_dst (N := 33) rfl ?_); refine row_event w.heap.size 3 rfl (N := 33) rfl 74 4 .i64 parquetryref05_Row.L10 ?ho (by kernel_rfl) Try.underlying74 (by kernel_rfl) (by kernel_rfl) (by decide) (by decide) HB.out (Nat.le_refl _) ?_; (case ho => kernel_rfl); intro v1 w1 hO1 hB1 hg1 hb1; have HO := Aside0.mk hO1; have HB1 := Aside0.mk hB1; clear hO1 hB1 hg1 hb1))
  go_ret
  exact ⟨_, rfl, HO.out, HB1.out⟩
 have b10 : (a0 == 10) = false := beq_eq_false_iff_ne.2 c10
 rw [if_neg c10] at h
 clear c10
 by_cases c11 : a0 = 11
 ·
  subst c11
  obtain rfl : parquetryref05_Row.L11 = r := by simpa using h
  clear h
  go_enter Try.func65, Try.ntmps65
  go_wp2_with (first | ((with_reducible refine gate_dst (N := 36) rfl ?_); refine row_event w.heap.size 3 rfl (N := 36) rfl 74 4 .i64 parquetryref05_Row.L11 ?ho (by kernel_rfl) Try.underlying74 (by kernel_rfl) (by kernel_rfl) (by decide) (by decide) HB.out (Nat.le_refl _) ?_; (case ho => kernel_rfl); intro v1 w1 hO1 hB1 hg1 hb1; have HO := Aside0.mk hO1; have HB1 := Aside0.mk hB1; clear hO1 hB1 hg1 hb1))
  go_ret
  exact ⟨_, rfl, HO.out, HB1.out⟩
 have b11 : (a0 == 11) = false := beq_eq_false_iff_ne.2 c11
 rw [if_neg c11] at h
 clear c11
 obtain rfl : [] = r := by simpa using h
 clear h
 go_enter Try.func65, Try.ntmps65
 go_wp2
 go_ret
 exact ⟨_, rfl, Kd.R_nil _ _ _ _ _, HB.out⟩
end


end Go.Proofs.Ytieffcjbbhigbaa.PC17
