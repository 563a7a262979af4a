/- For the laws of the group C17: the Lean functions that the Go functions compute, and proofs that they do. Written by wip/hprint.py of this repo over the kit's printer; nothing here is trusted: Lean checks it. -/
import Derived.Test.YtieffcjbbhigbaaPC17x0
namespace Go.Proofs.Ytieffcjbbhigbaa.PC17
open Go.RowKit Go.Proofs.YtieffcjbbhigbaaW.PrintWords Go.Proofs.YtieffcjbbhigbaaW.PrintLast Go.Proofs.YtieffcjbbhigbaaW.PrintMore
attribute [local go_sem] max2_int min2_int max_two min_two max_three min_three max_four min_four   -- for this text's walks alone
set_option linter.unusedVariables false
set_option linter.unusedSimpArgs false

/-! ### class_spans: function 43: by hand -/
def class_spans.L : List S70 := [(⟨0, 8, 9⟩ : S70), (⟨9, 9, 11⟩ : S70), (⟨10, 10, 10⟩ : S70), (⟨11, 11, 11⟩ : S70), (⟨12, 12, 12⟩ : S70), (⟨13, 13, 10⟩ : S70), (⟨14, 27, 9⟩ : S70), (⟨28, 30, 10⟩ : S70), (⟨31, 31, 11⟩ : S70), (⟨32, 32, 12⟩ : S70), (⟨33, 34, 13⟩ : S70), (⟨35, 37, 5⟩ : S70), (⟨38, 42, 13⟩ : S70), (⟨43, 43, 4⟩ : S70), (⟨44, 44, 7⟩ : S70), (⟨45, 45, 4⟩ : S70), (⟨46, 47, 7⟩ : S70), (⟨48, 57, 3⟩ : S70), (⟨58, 58, 7⟩ : S70), (⟨59, 64, 13⟩ : S70), (⟨91, 96, 13⟩ : S70), (⟨123, 126, 13⟩ : S70), (⟨127, 132, 9⟩ : S70), (⟨133, 133, 10⟩ : S70), (⟨134, 159, 9⟩ : S70), (⟨160, 160, 7⟩ : S70), (⟨161, 161, 13⟩ : S70), (⟨162, 165, 5⟩ : S70), (⟨166, 169, 13⟩ : S70), (⟨171, 172, 13⟩ : S70), (⟨173, 173, 9⟩ : S70), (⟨174, 175, 13⟩ : S70), (⟨176, 177, 5⟩ : S70), (⟨178, 179, 3⟩ : S70), (⟨180, 180, 13⟩ : S70), (⟨182, 184, 13⟩ : S70), (⟨185, 185, 3⟩ : S70), (⟨187, 191, 13⟩ : S70), (⟨215, 215, 13⟩ : S70), (⟨247, 247, 13⟩ : S70), (⟨768, 879, 8⟩ : S70), (⟨1155, 1161, 8⟩ : S70), (⟨1423, 1423, 5⟩ : S70), (⟨1424, 1424, 1⟩ : S70), (⟨1425, 1469, 8⟩ : S70), (⟨1470, 1470, 1⟩ : S70), (⟨1471, 1471, 8⟩ : S70), (⟨1472, 1472, 1⟩ : S70), (⟨1473, 1474, 8⟩ : S70), (⟨1475, 1475, 1⟩ : S70), (⟨1476, 1477, 8⟩ : S70), (⟨1478, 1478, 1⟩ : S70), (⟨1479, 1479, 8⟩ : S70), (⟨1480, 1535, 1⟩ : S70), (⟨1536, 1541, 6⟩ : S70), (⟨1542, 1543, 13⟩ : S70), (⟨1544, 1544, 2⟩ : S70), (⟨1545, 1546, 5⟩ : S70), (⟨1547, 1547, 2⟩ : S70), (⟨1548, 1548, 7⟩ : S70), (⟨1549, 1549, 2⟩ : S70), (⟨1550, 1551, 13⟩ : S70), (⟨1552, 1562, 8⟩ : S70), (⟨1563, 1610, 2⟩ : S70), (⟨1611, 1631, 8⟩ : S70), (⟨1632, 1641, 6⟩ : S70), (⟨1642, 1642, 5⟩ : S70), (⟨1643, 1644, 6⟩ : S70), (⟨1645, 1647, 2⟩ : S70), (⟨1648, 1648, 8⟩ : S70), (⟨1649, 1749, 2⟩ : S70), (⟨1750, 1756, 8⟩ : S70), (⟨1757, 1757, 6⟩ : S70), (⟨1758, 1758, 13⟩ : S70), (⟨1759, 1764, 8⟩ : S70), (⟨1765, 1766, 2⟩ : S70), (⟨1767, 1768, 8⟩ : S70), (⟨1769, 1769, 13⟩ : S70), (⟨1770, 1773, 8⟩ : S70), (⟨1774, 1775, 2⟩ : S70), (⟨1776, 1785, 3⟩ : S70), (⟨1786, 1791, 2⟩ : S70), (⟨1872, 1919, 2⟩ : S70), (⟨2274, 2274, 6⟩ : S70), (⟨2364, 2364, 8⟩ : S70), (⟨2369, 2376, 8⟩ : S70), (⟨2381, 2381, 8⟩ : S70), (⟨5760, 5760, 12⟩ : S70), (⟨8192, 8202, 12⟩ : S70), (⟨8203, 8205, 9⟩ : S70), (⟨8207, 8207, 1⟩ : S70), (⟨8208, 8231, 13⟩ : S70), (⟨8232, 8232, 12⟩ : S70), (⟨8233, 8233, 10⟩ : S70), (⟨8234, 8234, 14⟩ : S70), (⟨8235, 8235, 16⟩ : S70), (⟨8236, 8236, 18⟩ : S70), (⟨8237, 8237, 15⟩ : S70), (⟨8238, 8238, 17⟩ : S70), (⟨8239, 8239, 7⟩ : S70), (⟨8240, 8244, 5⟩ : S70), (⟨8245, 8259, 13⟩ : S70), (⟨8260, 8260, 7⟩ : S70), (⟨8261, 8286, 13⟩ : S70), (⟨8287, 8287, 12⟩ : S70), (⟨8288, 8293, 9⟩ : S70), (⟨8294, 8294, 19⟩ : S70), (⟨8295, 8295, 20⟩ : S70), (⟨8296, 8296, 21⟩ : S70), (⟨8297, 8297, 22⟩ : S70), (⟨8298, 8303, 9⟩ : S70), (⟨8304, 8304, 3⟩ : S70), (⟨8308, 8313, 3⟩ : S70), (⟨8314, 8315, 4⟩ : S70), (⟨8316, 8318, 13⟩ : S70), (⟨8320, 8329, 3⟩ : S70), (⟨8330, 8331, 4⟩ : S70), (⟨8332, 8334, 13⟩ : S70), (⟨8352, 8399, 5⟩ : S70), (⟨8400, 8432, 8⟩ : S70), (⟨8592, 8721, 13⟩ : S70), (⟨8722, 8722, 4⟩ : S70), (⟨8723, 8723, 5⟩ : S70), (⟨8724, 9013, 13⟩ : S70), (⟨9352, 9371, 3⟩ : S70), (⟨9472, 9899, 13⟩ : S70), (⟨9901, 10239, 13⟩ : S70), (⟨11904, 11929, 13⟩ : S70), (⟨12288, 12288, 12⟩ : S70), (⟨12289, 12292, 13⟩ : S70), (⟨12296, 12320, 13⟩ : S70), (⟨12330, 12333, 8⟩ : S70), (⟨12336, 12336, 13⟩ : S70), (⟨12441, 12442, 8⟩ : S70), (⟨64285, 64285, 1⟩ : S70), (⟨64286, 64286, 8⟩ : S70), (⟨64287, 64296, 1⟩ : S70), (⟨64297, 64297, 4⟩ : S70), (⟨64298, 64335, 1⟩ : S70), (⟨65024, 65039, 8⟩ : S70), (⟨65056, 65071, 8⟩ : S70), (⟨65104, 65104, 7⟩ : S70), (⟨65106, 65106, 7⟩ : S70), (⟨65109, 65109, 7⟩ : S70), (⟨65119, 65119, 5⟩ : S70), (⟨65122, 65123, 4⟩ : S70), (⟨65129, 65130, 5⟩ : S70), (⟨65136, 65278, 2⟩ : S70), (⟨65279, 65279, 9⟩ : S70), (⟨65281, 65282, 13⟩ : S70), (⟨65283, 65285, 5⟩ : S70), (⟨65286, 65290, 13⟩ : S70), (⟨65291, 65291, 4⟩ : S70), (⟨65292, 65292, 7⟩ : S70), (⟨65293, 65293, 4⟩ : S70), (⟨65294, 65295, 7⟩ : S70), (⟨65296, 65305, 3⟩ : S70), (⟨65306, 65306, 7⟩ : S70), (⟨65307, 65312, 13⟩ : S70), (⟨65339, 65344, 13⟩ : S70), (⟨65371, 65381, 13⟩ : S70), (⟨65504, 65505, 5⟩ : S70), (⟨65509, 65510, 5⟩ : S70), (⟨65529, 65533, 13⟩ : S70), (⟨127744, 128591, 13⟩ : S70), (⟨917760, 917999, 8⟩ : S70)]
def class_spans.f : Option (List S70) := some class_spans.L
def class_spans.vals : List Value := class_spans.L.map fun r => .agg #[.int .i64 r.f0, .int .i64 r.f1, .int .i64 r.f2]
section
open Go.Proofs.YtieffcjbbhigbaaH
theorem class_spans.reps {M : S70 → List Value → Prop} (h : ∀ x : S70, M x [.int .i64 x.f0, .int .i64 x.f1, .int .i64 x.f2]) : ∀ l : List S70, Reps M 3 l ((l.map fun r => Value.agg #[.int .i64 r.f0, .int .i64 r.f1, .int .i64 r.f2]).flatMap fun v => v.cells.toList)
 | [] => Reps.none _ _
 | x :: l => Reps.c3 (h x) (class_spans.reps h l)
set_option maxHeartbeats 4000000 in
set_option maxRecDepth 100000 in
theorem class_spans.calls (r : List S70) (w : World) (h : class_spans.f = some r) :
  Calls Try.prog 43 #[] w fun e w' => ∃ v0_ : Value, e = .returned (v0_) ∧ Kd.R k70 70 w' w.heap.size (fun _ => True) v0_ r ∧ Below w.heap.size w w' := by
 obtain rfl : class_spans.L = r := Option.some.inj h
 clear h
 go_enter Try.func43, Try.ntmps43
 refine wp_seq (wp_region_list ?_)
 refine Kd.event_run (w1 := w) (v := .slice none 0 0) rfl rfl ?_
 refine wpList_nil (wp_seq (wp_region_list ?_))
 refine builds_slice 166 _ (o := _) (rest := _) rfl k70 w.heap.size 70 rfl (N := 167) rfl 65 166 _ rfl class_spans.vals class_spans.L 168 (by kernel_rfl) (by kernel_rfl) (by decide) rfl (by kernel_rfl) Try.underlying65 (by kernel_rfl) (by kernel_rfl) (by decide +kernel) (by decide +kernel) (by decide) (by decide) (by decide) (fun v hv => by unfold class_spans.vals at hv; obtain ⟨x, _, rfl⟩ := List.mem_map.1 hv; rfl) (class_spans.reps (fun x => k70_mkM _ _ _ x) _) (Below.refl _ _) (Nat.le_refl _) ?_
 intro b v1 w1 hsz hdf hR hB
 refine Kd.event_run (w1 := w1) (v := v1) rfl (by simp [execOp, put_eval b 167 v1 (by rw [hsz]; decide)]) ?_
 refine wpList_nil (wp_ret ?_)
 refine bodyPost_ret (v := v1) ((results_tmp rfl _ _ _).trans ?_) ?_ ⟨v1, rfl, hR, hB⟩
 ·
  simp [Act.put, hsz]
 ·
  simp [Act.put, hdf]
end


-- NOT PRINTED: function 44 (class_span_int)

/-! ### class_Of: function 37: by hand -/
def class_Of.cells (r : S70) : List Value := [.int .i64 r.f0, .int .i64 r.f1, .int .i64 r.f2]
/-- The class of the span that has a number; 0, if none has it. -/
def class_Of.spn : List S70 → Int → Int
 | [], _ => 0
 | r :: l, c => if r.f1 < c then class_Of.spn l c else if c < r.f0 then 0 else r.f2
def class_Of.val (c : Int) : Int := class_Of.spn class_spans.L c
def class_Of.f (a0 : Int) : Option Int := some (class_Of.val a0)
section
open Go.Proofs.YtieffcjbbhigbaaH
def class_Of.side (r : S70) (c : Int) : Int := if r.f1 < c then -1 else if c < r.f0 then 1 else 0
theorem class_Of.cmp (f t k c : Int) (W : World) : Calls Try.prog 45 #[.agg #[.int .i64 f, .int .i64 t, .int .i64 k], .int .i64 c] W fun e w' => e = .returned (.int .i64 (class_Of.side (⟨f, t, k⟩ : S70) c)) ∧ Below W.heap.size W w' := by
 unfold class_Of.side
 by_cases h1 : t < c
 ·
  rw [if_pos h1]
  have b1 : decide (t < c) = true := decide_eq_true h1
  clear h1
  go_enter Try.func45, Try.ntmps45
  go_wp2
  go_ret
  exact ⟨rfl, below_alloc (Below.refl _ _) _⟩
 ·
  rw [if_neg h1]
  have b1 : decide (t < c) = false := decide_eq_false h1
  clear h1
  by_cases h2 : c < f
  ·
   rw [if_pos h2]
   have b2 : decide (c < f) = true := decide_eq_true h2
   clear h2
   go_enter Try.func45, Try.ntmps45
   go_wp2
   go_ret
   exact ⟨rfl, below_alloc (Below.refl _ _) _⟩
  ·
   rw [if_neg h2]
   have b2 : decide (c < f) = false := decide_eq_false h2
   clear h2
   go_enter Try.func45, Try.ntmps45
   go_wp2
   go_ret
   exact ⟨rfl, below_alloc (Below.refl _ _) _⟩
/-- What a search among n rows answers, of which S tells on which side each one is. -/
def class_Of.SPost (S : Nat → Int) (n : Nat) (w : World) (e : Ending) (w' : World) : Prop :=
 ∃ q : Nat, e = .returned (.tuple #[.int .i64 (q : Int), .bool (decide (q < n ∧ S q = 0))]) ∧ Below w.heap.size w w' ∧ q ≤ n ∧ ((∀ a b, a ≤ b → b < n → S b < 0 → S a < 0) → (∀ t, t < q → S t < 0) ∧ (∀ t, q ≤ t → t < n → 0 ≤ S t))
set_option maxHeartbeats 1000000 in
set_option maxRecDepth 100000 in
theorem class_Of.search (R : Nat → S70) (S : Nat → Int) (g c n : Nat) (y : Int) (w : World) (hg : g < w.heap.size) (hc : ∀ j, j < n → ∀ (k : Nat) v, (class_Of.cells (R j))[k]? = some v → w.cell? ⟨g, j * 3 + k, none⟩ = some v) (hlen : n < 1000000)
  (hS : ∀ j, j < n → ∀ W : World, Calls Try.prog 45 #[.agg #[.int .i64 (R j).f0, .int .i64 (R j).f1, .int .i64 (R j).f2], .int .i64 y] W fun e w' => e = .returned (.int .i64 (S j)) ∧ Below W.heap.size W w') :
  Calls Try.prog 44 #[.slice (some ⟨g, 0, none⟩) n c, .int .i64 y, .func (.func 45) #[] #[]] w (class_Of.SPost S n w) := by
 have eg : ∀ args w, (callFunc 45 args).run Try.prog w = .ok (.enter 45 args) w := enters_of Try.func45 (by kernel_rfl) rfl
 have HC := Aside0.mk hc
 have HSC := Aside0.mk hS
 have HG := Aside0.mk hg
 have HB0 := Aside0.mk (Below.refl w.heap.size w)
 clear hc hS hg
 go_enter Try.func44, Try.ntmps44
 go_wp2
 go_loopg [9, 10] n (fun kx s9 s10 wr => ∃ lo hi : Nat, s9 = .int .i64 lo ∧ s10 = .int .i64 hi ∧ lo ≤ hi ∧ hi ≤ n ∧ hi - lo ≤ kx ∧ Aside0 (Below w.heap.size w wr) ∧ Aside0 ((∀ a b, a ≤ b → b < n → S b < 0 → S a < 0) → (∀ t, t < lo → S t < 0) ∧ (∀ t, hi ≤ t → t < n → 0 ≤ S t)))
 case atStart => exact ⟨0, n, rfl, rfl, Nat.zero_le _, Nat.le_refl _, by omega, HB0, ⟨fun _ => ⟨fun t ht => absurd ht (Nat.not_lt_zero _), fun t h1 h2 => by omega⟩⟩⟩
 case round =>
  clear HB0
  obtain ⟨lo, hi, rfl, rfl, hlh, hin, hk, HB, I⟩ := hrel
  by_cases hlt : lo < hi
  ·
   have cm : ∀ (k : Nat) v, (class_Of.cells (R ((lo + hi) / 2)))[k]? = some v → wr.cell? ⟨g, (lo + hi) / 2 * 3 + k, none⟩ = some v := fun k v h => (HB.out.cell (p := ⟨g, (lo + hi) / 2 * 3 + k, none⟩) HG.out).trans (HC.out _ (by omega) k v h)
   have hsm := HSC.out ((lo + hi) / 2) (by omega)
   rcases hv : R ((lo + hi) / 2) with ⟨rf, rt, rk⟩
   rw [hv] at cm hsm
   have cm0 : wr.cell? ⟨g, (lo + hi) / 2 * 3, none⟩ = some (.int .i64 rf) := cm 0 _ rfl
   have cm1 : wr.cell? ⟨g, (lo + hi) / 2 * 3 + 1, none⟩ = some (.int .i64 rt) := cm 1 _ rfl
   have cm2 : wr.cell? ⟨g, (lo + hi) / 2 * 3 + 2, none⟩ = some (.int .i64 rk) := cm 2 _ rfl
   clear hv cm
   have HSM := Aside0.mk hsm
   clear hsm
   generalize hsv : S ((lo + hi) / 2) = s at HSM
   have V := Aside0.mk hsv
   clear hsv
   by_cases h1 : s < 0
   ·
    have HV := Aside0.mk h1
    have hb1 : decide (s < 0) = true := decide_eq_true h1
    clear h1
    go_wp2_with (go_at_fn 45; refine (HSM.out _).mono ?_; rintro e w2 ⟨rfl, hb2⟩; have n0_ := Aside0.mk (below_step HB.out hb2); clear HB hb2; have HB := n0_; clear n0_)
    go_roundg (hi - ((lo + hi) / 2 + 1))
    case measure => omega
    case rel =>
     refine ⟨(lo + hi) / 2 + 1, hi, by rw [show ((lo : Int) + (hi : Int)) / 2 + 1 = (((lo + hi) / 2 + 1 : Nat) : Int) by omega], rfl, by omega, hin, Nat.le_refl _, HB, ⟨fun hm => ⟨fun t ht => ?_, (I.out hm).2⟩⟩⟩
     exact hm t ((lo + hi) / 2) (by omega) (by omega) (by rw [V.out]; exact HV.out)
   ·
    have HV := Aside0.mk h1
    have hb1 : decide (s < 0) = false := decide_eq_false h1
    clear h1
    go_wp2_with (go_at_fn 45; refine (HSM.out _).mono ?_; rintro e w2 ⟨rfl, hb2⟩; have n0_ := Aside0.mk (below_step HB.out hb2); clear HB hb2; have HB := n0_; clear n0_)
    go_roundg ((lo + hi) / 2 - lo)
    case measure => omega
    case rel =>
     refine ⟨lo, (lo + hi) / 2, rfl, by rw [show ((lo : Int) + (hi : Int)) / 2 = (((lo + hi) / 2 : Nat) : Int) by omega], by omega, by omega, Nat.le_refl _, HB, ⟨fun hm => ⟨(I.out hm).1, fun t ht htn => ?_⟩⟩⟩
     have h5 := HV.out
     rw [← V.out] at h5
     refine Int.not_lt.1 (fun h6 => absurd (hm ((lo + hi) / 2) t ht htn h6) (Int.not_lt.2 (Int.not_lt.1 (fun h7 => absurd h7 (by simpa using h5)))))
  ·
   obtain rfl : hi = lo := by omega
   by_cases hcn : hi < n
   ·
    have cm : ∀ (k : Nat) v, (class_Of.cells (R hi))[k]? = some v → wr.cell? ⟨g, hi * 3 + k, none⟩ = some v := fun k v h => (HB.out.cell (p := ⟨g, hi * 3 + k, none⟩) HG.out).trans (HC.out _ hcn k v h)
    have hsm := HSC.out hi hcn
    rcases hv : R hi with ⟨rf, rt, rk⟩
    rw [hv] at cm hsm
    have cm0 : wr.cell? ⟨g, hi * 3, none⟩ = some (.int .i64 rf) := cm 0 _ rfl
    have cm1 : wr.cell? ⟨g, hi * 3 + 1, none⟩ = some (.int .i64 rt) := cm 1 _ rfl
    have cm2 : wr.cell? ⟨g, hi * 3 + 2, none⟩ = some (.int .i64 rk) := cm 2 _ rfl
    clear hv cm
    have HSM := Aside0.mk hsm
    clear hsm
    generalize hsv : S hi = s at HSM
    have V := Aside0.mk hsv
    clear hsv
    by_cases h1 : s = 0
    ·
     subst h1
     go_wp2_with (go_at_fn 45; refine (HSM.out _).mono ?_; rintro e w2 ⟨rfl, hb2⟩; have n0_ := Aside0.mk (below_step HB.out hb2); clear HB hb2; have HB := n0_; clear n0_)
     go_ret2
     exact ⟨hi, by rw [decide_eq_true (show hi < n ∧ S hi = 0 from ⟨hcn, V.out⟩)]; rfl, HB.out, hin, I.out⟩
    ·
     have hb1 : (s == 0) = false := beq_eq_false_iff_ne.2 h1
     have HV := Aside0.mk h1
     clear h1
     go_wp2_with (go_at_fn 45; refine (HSM.out _).mono ?_; rintro e w2 ⟨rfl, hb2⟩; have n0_ := Aside0.mk (below_step HB.out hb2); clear HB hb2; have HB := n0_; clear n0_)
     go_ret2
     exact ⟨hi, by rw [decide_eq_false (show ¬ (hi < n ∧ S hi = 0) from fun h => HV.out (V.out ▸ h.2))]; rfl, HB.out, hin, I.out⟩
   ·
    go_wp2
    go_ret2
    exact ⟨hi, by rw [decide_eq_false (show ¬ (hi < n ∧ S hi = 0) from fun h => hcn h.1)]; rfl, HB.out, hin, I.out⟩

theorem class_Of.spn_at : ∀ (l : List S70) (c : Int) (q : Nat), q ≤ l.length → (∀ t, t < q → (l.getD t z70).f1 < c) → (∀ t, q ≤ t → t < l.length → c ≤ (l.getD t z70).f1) → class_Of.spn l c = if q < l.length ∧ (l.getD q z70).f0 ≤ c then (l.getD q z70).f2 else 0
 | [], c, q, hq, _, _ => by
  obtain rfl : q = 0 := by simpa using hq
  rfl
 | r :: l, c, 0, hq, h1, h2 => by
  have h3 : c ≤ r.f1 := h2 0 (Nat.le_refl _) (by simp)
  unfold class_Of.spn
  rw [if_neg (by omega)]
  by_cases h4 : c < r.f0
  ·
   rw [if_pos h4, if_neg (fun h => by have : r.f0 ≤ c := h.2; omega)]
  ·
   rw [if_neg h4, if_pos ⟨by simp, by show r.f0 ≤ c; omega⟩]
   rfl
 | r :: l, c, q + 1, hq, h1, h2 => by
  have h3 : r.f1 < c := h1 0 (by omega)
  have ih := class_Of.spn_at l c q (by simpa using hq) (fun t ht => by simpa using h1 (t + 1) (by omega)) (fun t ht1 ht2 => by simpa using h2 (t + 1) (by omega) (by simpa using ht2))
  unfold class_Of.spn
  rw [if_pos h3, ih]
  simp
def class_Of.row (j : Nat) : S70 := class_spans.L.getD j z70
set_option maxRecDepth 100000 in
theorem class_Of.row_up : ∀ a b, a < b → b < 166 → (class_Of.row a).f1 < (class_Of.row b).f1 := by
 have h : ∀ b : Fin 166, ∀ a : Fin b.val, (class_Of.row a.val).f1 < (class_Of.row b.val).f1 := by decide +kernel
 exact fun a b h1 h2 => h ⟨b, h2⟩ ⟨a, h1⟩
theorem class_Of.len : class_spans.L.length = 166 := by decide +kernel
set_option maxHeartbeats 4000000 in
set_option maxRecDepth 100000 in
theorem class_Of.calls (a0 : Int) (r : Int) (w : World) (h : class_Of.f a0 = some r) :
  Calls Try.prog 37 #[.int .i64 a0] w fun e w' => e = .returned (.int .i64 r) ∧ Below w.heap.size w w' := by
 have HV := Aside0.mk (show class_Of.val a0 = r from Option.some.inj h)
 clear h
 have HB := Aside0.mk (Below.refl w.heap.size w)
 have HL := Aside0.mk class_Of.len
 have HSE := Aside0.mk (fun g W c (hg : g < W.heap.size) hc => class_Of.search class_Of.row (fun j => class_Of.side (class_Of.row j) a0) g c 166 a0 W hg hc (by decide) (fun j _ W => class_Of.cmp _ _ _ _ _))
 have HUP := Aside0.mk class_Of.row_up
 have HAT := Aside0.mk (class_Of.spn_at class_spans.L a0)
 have HSP := Aside0.mk (fun W => class_spans.calls class_spans.L W rfl)
 have HRW := Aside0.mk (show ∀ j, class_spans.L.getD j z70 = class_Of.row j from fun j => rfl)
 unfold class_Of.val at HV
 generalize class_spans.L = L at *
 go_enter Try.func37, Try.ntmps37
 go_wp2_with (go_at_call 43; refine (HSP.out _).mono ?_; rintro e w1 ⟨v1, rfl, hO, hb1⟩; obtain ⟨g, c, rfl, hgb, hgl, hty⟩ := Kd.R_form hO (by rw [HL.out]; decide); have n0_ := Aside0.mk (below_step HB.out hb1); clear HB hb1 hty; have HB := n0_; clear n0_; have HO := Aside0.mk (Kd.R_reads hO); clear hO; rw [HL.out] at HO; (try rw [HL.out]))
 have HC : Aside0 (∀ j, j < 166 → ∀ (k : Nat) v, (class_Of.cells (class_Of.row j))[k]? = some v → w1.cell? ⟨g, j * 3 + k, none⟩ = some v) := ⟨fun j hj k v hk => by
  obtain ⟨A, c', he, hlc, hC⟩ := HO.out
  injection he with he _ _
  subst he
  obtain ⟨ad, hA, hcell⟩ := hC.2.2 (by omega)
  injection hA with hA
  subst hA
  have hL : L[j]? = some (class_Of.row j) := by
   have h1 : j < L.length := by rw [HL.out]; exact hj
   rw [List.getElem?_eq_getElem h1, ← HRW.out j, List.getD_eq_getElem?_getD, List.getElem?_eq_getElem h1]
   rfl
  obtain ⟨cs, _, hK, hcc⟩ := hcell j _ hL
  obtain rfl := k70_open hK
  have h3 := hcc k v hk
  have ea : (⟨g, 0, none⟩ : Addr).add (j * 3 + k) = ⟨g, j * 3 + k, none⟩ := by
   by_cases h0 : j * 3 + k = 0
   ·
    rw [h0]; rfl
   ·
    simp [Addr.add]
    omega
  exact (congrArg w1.cell? ea).symm.trans h3⟩
 clear HO
 refine (HSE.out g w1 c hgl HC.out).mono ?_
 rintro e w4 ⟨q, rfl, hb4, hqn, hmq⟩
 have HC4 := Aside0.mk (fun j hj k v h_ => (hb4.cell (p := ⟨g, j * 3 + k, none⟩) hgl).trans (HC.out j hj k v h_))
 have n0_ := Aside0.mk (below_step HB.out hb4)
 clear HB hb4 HC
 have HB := n0_
 clear n0_
 have hm := hmq (fun a b hab hb hs => by
  have e1 : (class_Of.row b).f1 < a0 := by
   simp only [class_Of.side] at hs
   split at hs
   ·
    assumption
   ·
    split at hs <;> omega
  have e2 : (class_Of.row a).f1 < a0 := by
   by_cases e : a = b
   ·
    subst e; exact e1
   ·
    have := HUP.out a b (by omega) hb
    omega
  simp only [class_Of.side]
  rw [if_pos e2]
  decide)
 have hv := HAT.out q (by rw [HL.out]; exact hqn) (fun t ht => by
  have := hm.1 t ht
  rw [HRW.out]
  simp only [class_Of.side] at this
  split at this
  ·
   assumption
  ·
   split at this <;> omega) (fun t ht1 ht2 => by
  rw [HL.out] at ht2
  have := hm.2 t ht1 ht2
  rw [HRW.out]
  simp only [class_Of.side] at this
  split at this
  ·
   omega
  ·
   omega)
 rw [HV.out, HL.out, HRW.out] at hv
 have hside : q < 166 → class_Of.side (class_Of.row q) a0 = 0 → (class_Of.row q).f0 ≤ a0 := fun h1 h2 => by
  simp only [class_Of.side] at h2
  split at h2
  ·
   omega
  ·
   split at h2 <;> omega
 have hside2 : q < 166 → (class_Of.row q).f0 ≤ a0 → class_Of.side (class_Of.row q) a0 = 0 := fun h1 h2 => by
  have := hm.2 q (Nat.le_refl _) h1
  simp only [class_Of.side] at this ⊢
  split at this
  ·
   omega
  ·
   rename_i h3
   rw [if_neg h3, if_neg (by omega)]
 clear hm hmq
 by_cases hq : q < 166 ∧ (class_Of.row q).f0 ≤ a0
 ·
  rw [if_pos hq] at hv
  rw [show decide (q < 166 ∧ (fun j => class_Of.side (class_Of.row j) a0) q = 0) = true from decide_eq_true ⟨hq.1, hside2 hq.1 hq.2⟩]
  have cm2 : w4.cell? ⟨g, q * 3 + 2, none⟩ = some (.int .i64 (class_Of.row q).f2) := HC4.out q hq.1 2 _ rfl
  have HQ := Aside0.mk hv
  have hq1 := hq.1
  clear hv hside hside2 hq HC4 HSE HUP HAT HSP HRW HV HL hqn
  generalize (class_Of.row q).f2 = kk at *
  go_wp2
  go_ret
  exact ⟨by rw [HQ.out]; rfl, HB.out⟩
 ·
  rw [if_neg hq] at hv
  rw [show decide (q < 166 ∧ (fun j => class_Of.side (class_Of.row j) a0) q = 0) = false from decide_eq_false (fun h => hq ⟨h.1, hside h.1 h.2⟩)]
  have HQ := Aside0.mk hv
  clear hv hside hside2 hq HC4 HSE HUP HAT HSP HRW HV HL hqn
  go_wp2
  go_ret
  exact ⟨by rw [HQ.out]; rfl, HB.out⟩
end


/-! ### wrap_Break: function 18 -/
def wrap_Break.f (a0_0 : Int) (a0_1 : Int) (a0_2 : Int) (a0_3 : Int) (a0_4 : Int) (a0_5 : Int) : Option (Bool) := (class_Of.f a0_5).bind fun t102 => (some (t102 == 10))
set_option maxHeartbeats 8000000 in
set_option maxRecDepth 100000 in
theorem wrap_Break.calls (a0_0 : Int) (a0_1 : Int) (a0_2 : Int) (a0_3 : Int) (a0_4 : Int) (a0_5 : Int) (r : Bool) (w : World) (h : wrap_Break.f a0_0 a0_1 a0_2 a0_3 a0_4 a0_5 = some r) :
  Calls Try.prog 18 #[.agg #[.int .i64 a0_0, .int .i64 a0_1, .int .i64 a0_2, .int .i64 a0_3, .int .i64 a0_4, .int .i64 a0_5]] w fun e w' => e = .returned (.bool r) ∧ Below w.heap.size w w' := by
 have hu39 := Try.underlying39
 have HB := Aside0.mk (Below.refl w.heap.size w)
 have H : ((class_Of.f a0_5).bind fun t102 => (some (t102 == 10))) = some r := h
 clear h
 replace H := Option.bind_eq_some_iff.mp H
 obtain ⟨t102, A20, H⟩ := H
 replace H : (some (t102 == 10)) = some r := H
 have A2 := Aside0.mk A20
 clear A20
 obtain rfl := Option.some.inj H
 go_enter Try.func18, Try.ntmps18
 go_wp2_with (first | ((with_reducible refine gate_dst (N := 1) rfl ?_); refine box_event ?hg (N := 1) ?hd (cs := #[.int .i64 a0_0, .int .i64 a0_1, .int .i64 a0_2, .int .i64 a0_3, .int .i64 a0_4, .int .i64 a0_5]) (t := 39) ?hr ?_; (case hd => rfl); (case hg => rfl); (case hr => first | (go_simp; done) | (go_simp; rfl)); intro gb101 hg w3 hbox hb; have n0_ := Aside0.mk (below_step (by repeat (first | (with_reducible first | exact HB.out | apply below_alloc | apply pw_below_drewN | apply below_drew1) | exact HB.out)) hb); have n1_ := Aside0.mk (hbox); have n2_ := Aside0.mk ((by rw [hg]; exact (below_size (by repeat (first | (with_reducible first | exact HB.out | apply below_alloc | apply pw_below_drewN | apply below_drew1) | exact HB.out))) : w.heap.size ≤ gb101)); have n3_ := Aside0.mk ((by rw [hg]; exact (below_size (by repeat (first | (with_reducible first | exact HB.out | apply below_alloc | apply pw_below_drewN | apply below_drew1) | exact HB.out))) : w.heap.size ≤ gb101)); clear HB; have HB := n0_; have BK101 := n1_; have GW101 := n2_; have GE101 := n3_; clear n0_ n1_ n2_ n3_; clear hb hbox hg; have hcz4_0 : w3.cell? ⟨gb101, 0, none⟩ = some (.int .i64 a0_0) := (blk_cell BK101.out 0).trans rfl; have hcz4_1 : w3.cell? ⟨gb101, 1, none⟩ = some (.int .i64 a0_1) := (blk_cell BK101.out 1).trans rfl; have hcz4_2 : w3.cell? ⟨gb101, 2, none⟩ = some (.int .i64 a0_2) := (blk_cell BK101.out 2).trans rfl; have hcz4_3 : w3.cell? ⟨gb101, 3, none⟩ = some (.int .i64 a0_3) := (blk_cell BK101.out 3).trans rfl; have hcz4_4 : w3.cell? ⟨gb101, 4, none⟩ = some (.int .i64 a0_4) := (blk_cell BK101.out 4).trans rfl; have hcz4_5 : w3.cell? ⟨gb101, 5, none⟩ = some (.int .i64 a0_5) := (blk_cell BK101.out 5).trans rfl; have hfz4_0 := blk_frozen BK101.out 0; have hfz4_1 := blk_frozen BK101.out 1; have hfz4_2 := blk_frozen BK101.out 2; have hfz4_3 := blk_frozen BK101.out 3; have hfz4_4 := blk_frozen BK101.out 4; have hfz4_5 := blk_frozen BK101.out 5) | ((with_reducible refine gate_callee (f := 37) rfl ?_); refine goesL_ (some 5) rfl rfl Try.func37 (by kernel_rfl) rfl #[.int .i64 a0_5] rfl (by (try simp only [List.map_toArray, List.map_cons, List.map_nil]); first | done | rfl | (simp only [List.length_drop, List.length_take]; rfl)) ?_; (with_reducible refine (class_Of.calls a0_5 t102 _ A2.out).mono ?_); rintro e w5 ⟨rfl, hb⟩; refine ⟨_, rfl, ?_⟩; have n0_ := Aside0.mk (blk_below (g := gb101) (o := .cells #[.int .i64 a0_0, .int .i64 a0_1, .int .i64 a0_2, .int .i64 a0_3, .int .i64 a0_4, .int .i64 a0_5] 39 (0, 0)) (by (with_reducible repeat (first | refine blk_drewN ?_ _ | refine blk_drew ?_ | refine blk_alloc ?_ _)); exact BK101.out) hb); have n1_ := Aside0.mk (below_step (by repeat (first | (with_reducible first | exact HB.out | apply below_alloc | apply pw_below_drewN | apply below_drew1 | refine below_set ?_ GE101.out) | exact HB.out)) hb); clear BK101; clear HB; have BK101 := n0_; have HB := n1_; clear n0_ n1_; (try clear hb); (try clear hb2); (try clear hk); (try clear hi)))
 go_ret
 exact ⟨by first | rfl | (simp [errW_none, errW_some] <;> rfl) | (simp [*, errW_none, errW_some] <;> rfl), by repeat (first | (with_reducible first | exact HB.out | apply below_alloc | apply pw_below_drewN | apply below_drew1 | refine below_set ?_ GE101.out) | exact HB.out)⟩

/-! ### wrap_Shown: function 22 -/
def wrap_Shown.f (l0 : List (S39)) : Option (Int) := if (l0.length : Int) > 0 then (if 0 ≤ (wrap64 ((l0.length : Int) - 1)) then (if (wrap64 ((l0.length : Int) - 1)) < (l0.length : Int) then ((wrap_Break.f ((rd_T39 l0 (wrap64 ((l0.length : Int) - 1))).f0) ((rd_T39 l0 (wrap64 ((l0.length : Int) - 1))).f1) ((rd_T39 l0 (wrap64 ((l0.length : Int) - 1))).f2) ((rd_T39 l0 (wrap64 ((l0.length : Int) - 1))).f3) ((rd_T39 l0 (wrap64 ((l0.length : Int) - 1))).f4) ((rd_T39 l0 (wrap64 ((l0.length : Int) - 1))).f5)).bind fun t104 => (if t104 = true then (some (wrap64 ((l0.length : Int) - 1))) else (some (l0.length : Int)))) else (none)) else (none)) else (some (l0.length : Int))
set_option maxHeartbeats 8000000 in
set_option maxRecDepth 100000 in
theorem wrap_Shown.calls (A0 : Option Addr) (c0 : Nat) (l0 : List (S39)) (r : Int) (w : World) (hr0 : Kd.C k39 w A0 l0.length l0) (hc0 : l0.length ≤ c0) (h : wrap_Shown.f l0 = some r) :
  Calls Try.prog 22 #[.slice A0 l0.length c0] w fun e w' => e = .returned (.int .i64 r) ∧ Below w.heap.size w w' := by
 have hu39 := Try.underlying39
 have HR0 := Aside0.mk hr0
 have HC0 := Aside0.mk hc0
 clear hr0 hc0
 have HB := Aside0.mk (Below.refl w.heap.size w)
 have H : (if (l0.length : Int) > 0 then (if 0 ≤ (wrap64 ((l0.length : Int) - 1)) then (if (wrap64 ((l0.length : Int) - 1)) < (l0.length : Int) then ((wrap_Break.f ((rd_T39 l0 (wrap64 ((l0.length : Int) - 1))).f0) ((rd_T39 l0 (wrap64 ((l0.length : Int) - 1))).f1) ((rd_T39 l0 (wrap64 ((l0.length : Int) - 1))).f2) ((rd_T39 l0 (wrap64 ((l0.length : Int) - 1))).f3) ((rd_T39 l0 (wrap64 ((l0.length : Int) - 1))).f4) ((rd_T39 l0 (wrap64 ((l0.length : Int) - 1))).f5)).bind fun t104 => (if t104 = true then (some (wrap64 ((l0.length : Int) - 1))) else (some (l0.length : Int)))) else (none)) else (none)) else (some (l0.length : Int))) = some r := h
 clear h
 by_cases c2 : (l0.length : Int) > 0
 ·
  rw [if_pos c2] at H
  have c2b0 : decide (0 < (l0.length : Int)) = true := decide_eq_true c2
  have c2b1 : decide (0 < l0.length) = true := decide_eq_true (by omega)
  clear c2
  obtain ⟨ji3, hji3⟩ : ∃ j_ : Int, (wrap64 ((l0.length : Int) - 1)) = j_ := ⟨_, rfl⟩
  replace H : (if 0 ≤ (ji3) then (if (ji3) < (l0.length : Int) then ((wrap_Break.f ((rd_T39 l0 (ji3)).f0) ((rd_T39 l0 (ji3)).f1) ((rd_T39 l0 (ji3)).f2) ((rd_T39 l0 (ji3)).f3) ((rd_T39 l0 (ji3)).f4) ((rd_T39 l0 (ji3)).f5)).bind fun t104 => (if t104 = true then (some ji3) else (some (l0.length : Int)))) else (none)) else (none)) = some r := by first | (rw [hji3] at H; exact H) | (simp only [hji3] at H ⊢; exact H)
  have hji3w : (IntKind.i64.wrap ((l0.length : Int) - 1)) = ji3 := (i64_w _).trans hji3
  by_cases c4 : 0 ≤ (ji3)
  ·
   rw [if_pos c4] at H
   have c4b0 : decide (0 ≤ (ji3)) = true := decide_eq_true c4
   clear c4
   by_cases c5 : (ji3) < (l0.length : Int)
   ·
    rw [if_pos c5] at H
    have c5b0 : decide ((ji3) < (l0.length : Int)) = true := decide_eq_true c5
    clear c5
    replace H := Option.bind_eq_some_iff.mp H
    obtain ⟨t104, A60, H⟩ := H
    replace H : (if t104 = true then (some ji3) else (some (l0.length : Int))) = some r := H
    have A6 := Aside0.mk A60
    clear A60
    by_cases c7 : t104 = true
    ·
     subst c7
     have H1 : (some ji3) = some r := by rw [if_pos rfl] at H; exact H
     clear H
     have H := H1
     clear H1
     obtain rfl := Option.some.inj H
     have p103 : 0 ≤ ((ji3) : Int) := of_decide_eq_true (by first | (with_reducible assumption) | assumption)
     have q103 : (ji3) < (l0.length : Int) := of_decide_eq_true (by first | (with_reducible assumption) | assumption)
     obtain ⟨ad103, e103, hx103_0, hx103_1, hx103_2, hx103_3, hx103_4, hx103_5⟩ := at_T39 HR0.out (ji3) p103 q103
     cases e103
     replace p103 := eq_true p103
     replace q103 := eq_true q103
     go_enter Try.func22, Try.ntmps22
     go_wp2_with (first | (go_at_call 18; (with_reducible refine (wrap_Break.calls ((rd_T39 l0 (ji3)).f0) ((rd_T39 l0 (ji3)).f1) ((rd_T39 l0 (ji3)).f2) ((rd_T39 l0 (ji3)).f3) ((rd_T39 l0 (ji3)).f4) ((rd_T39 l0 (ji3)).f5) true _ A6.out).mono ?_); rintro e w8 ⟨rfl, hb⟩; have n0_ := Aside0.mk (below_step (by repeat (first | (with_reducible first | exact HB.out | apply below_alloc | apply pw_below_drewN | apply below_drew1) | exact HB.out)) hb); clear HB; have HB := n0_; clear n0_; (try clear hb); (try clear hb2); (try clear hk); (try clear hi)))
     go_ret
     exact ⟨by first | rfl | (simp [errW_none, errW_some] <;> rfl) | (simp only [← hji3]; first | rfl | (simp [errW_none, errW_some] <;> rfl)) | (simp [*, errW_none, errW_some] <;> rfl), by repeat (first | (with_reducible first | exact HB.out | apply below_alloc | apply pw_below_drewN | apply below_drew1) | exact HB.out)⟩
    ·
     replace c7 := Bool.eq_false_iff.mpr c7
     subst c7
     have H1 : (some (l0.length : Int)) = some r := by rw [if_neg (show ¬ (false = true) by decide)] at H; exact H
     clear H
     have H := H1
     clear H1
     obtain rfl := Option.some.inj H
     have p103 : 0 ≤ ((ji3) : Int) := of_decide_eq_true (by first | (with_reducible assumption) | assumption)
     have q103 : (ji3) < (l0.length : Int) := of_decide_eq_true (by first | (with_reducible assumption) | assumption)
     obtain ⟨ad103, e103, hx103_0, hx103_1, hx103_2, hx103_3, hx103_4, hx103_5⟩ := at_T39 HR0.out (ji3) p103 q103
     cases e103
     replace p103 := eq_true p103
     replace q103 := eq_true q103
     go_enter Try.func22, Try.ntmps22
     go_wp2_with (first | (go_at_call 18; (with_reducible refine (wrap_Break.calls ((rd_T39 l0 (ji3)).f0) ((rd_T39 l0 (ji3)).f1) ((rd_T39 l0 (ji3)).f2) ((rd_T39 l0 (ji3)).f3) ((rd_T39 l0 (ji3)).f4) ((rd_T39 l0 (ji3)).f5) false _ A6.out).mono ?_); rintro e w9 ⟨rfl, hb⟩; have n0_ := Aside0.mk (below_step (by repeat (first | (with_reducible first | exact HB.out | apply below_alloc | apply pw_below_drewN | apply below_drew1) | exact HB.out)) hb); clear HB; have HB := n0_; clear n0_; (try clear hb); (try clear hb2); (try clear hk); (try clear hi)))
     go_ret
     exact ⟨by first | rfl | (simp [errW_none, errW_some] <;> rfl) | (simp only [← hji3]; first | rfl | (simp [errW_none, errW_some] <;> rfl)) | (simp [*, errW_none, errW_some] <;> rfl), by repeat (first | (with_reducible first | exact HB.out | apply below_alloc | apply pw_below_drewN | apply below_drew1) | exact HB.out)⟩
   ·
    rw [if_neg c5] at H
    exact absurd H (by simp)
  ·
   rw [if_neg c4] at H
   exact absurd H (by simp)
 ·
  rw [if_neg c2] at H
  have c2b0 : decide (0 < (l0.length : Int)) = false := decide_eq_false c2
  have c2b1 : decide (0 < l0.length) = false := decide_eq_false (by omega)
  clear c2
  obtain rfl := Option.some.inj H
  go_enter Try.func22, Try.ntmps22
  go_wp2
  go_ret
  exact ⟨by first | rfl | (simp [errW_none, errW_some] <;> rfl) | (simp [*, errW_none, errW_some] <;> rfl), by repeat (first | (with_reducible first | exact HB.out | apply below_alloc | apply pw_below_drewN | apply below_drew1) | exact HB.out)⟩

/-! ### wrap_Fits: function 24 -/
def wrap_Fits.l0 : Nat → List (S39) → Int → Int → Option (Int)
 | 0, _, _, _ => none
 | k + 1, x0, x7, x8 => if x7 < (x0.length : Int) then (if 0 ≤ x7 then (if (mx ((rd_T39 x0 x7).f4) 0) > x8 then (some x7) else (wrap_Fits.l0 k x0 (wrap64 (x7 + 1)) (wrap64 (x8 - (mx ((rd_T39 x0 x7).f4) 0))))) else (none)) else (some x7)
def wrap_Fits.f (k : Nat) (l0 : List (S39)) (a1 : Int) (a2 : Int) : Option (Int) := wrap_Fits.l0 k l0 (mn (mx a1 0) (l0.length : Int)) a2
theorem wrap_Fits.mono_l : ∀ k, (∀ y0 y1 y2, LeO (wrap_Fits.l0 k y0 y1 y2) (wrap_Fits.l0 (k + 1) y0 y1 y2))
 | 0 => fun _ _ _ r h => by simp [wrap_Fits.l0] at h
 | k + 1 => by
  have ih0 := wrap_Fits.mono_l k
  ·
   intro y0 y1 y2
   unfold wrap_Fits.l0
   repeat' first
   | (with_reducible exact ih0 _ _ _)
   | (with_reducible exact LeO.refl _)
   | (with_reducible exact LeO.none _)
   | (with_reducible refine LeO.ite ?_ ?_)
   | (with_reducible refine LeO.bind ?_ (fun _ => ?_))
   | exact ih0 _ _ _
   | exact LeO.none _
   | refine LeO.ite ?_ ?_
   | refine LeO.bind ?_ (fun _ => ?_)
theorem wrap_Fits.mono : ∀ a0 a1 a2 k, LeO (wrap_Fits.f k a0 a1 a2) (wrap_Fits.f (k + 1) a0 a1 a2) := by
 intro a0 a1 a2 k
 have ih0 := wrap_Fits.mono_l k
 unfold wrap_Fits.f
 repeat' first
   | (with_reducible exact ih0 _ _ _)
   | (with_reducible exact LeO.refl _)
   | (with_reducible exact LeO.none _)
   | (with_reducible refine LeO.ite ?_ ?_)
   | (with_reducible refine LeO.bind ?_ (fun _ => ?_))
   | exact ih0 _ _ _
   | exact LeO.none _
   | refine LeO.ite ?_ ?_
   | refine LeO.bind ?_ (fun _ => ?_)
set_option maxHeartbeats 8000000 in
set_option maxRecDepth 100000 in
theorem wrap_Fits.calls (k : Nat) (A0 : Option Addr) (c0 : Nat) (l0 : List (S39)) (a1 : Int) (a2 : Int) (r : Int) (w : World) (hr0 : Kd.C k39 w A0 l0.length l0) (hc0 : l0.length ≤ c0) (h : wrap_Fits.f k l0 a1 a2 = some r) :
  Calls Try.prog 24 #[.slice A0 l0.length c0, .int .i64 a1, .int .i64 a2] w fun e w' => e = .returned (.int .i64 r) ∧ Below w.heap.size w w' := by
 have HR0 := Aside0.mk hr0
 have HC0 := Aside0.mk hc0
 clear hr0 hc0
 have HB := Aside0.mk (Below.refl w.heap.size w)
 have H : (wrap_Fits.l0 k l0 (mn (mx a1 0) (l0.length : Int)) a2) = some r := h
 clear h
 obtain ⟨ji4, hji4⟩ : ∃ j_ : Int, (mx a1 0) = j_ := ⟨_, rfl⟩
 replace H : (wrap_Fits.l0 k l0 (mn (ji4) (l0.length : Int)) a2) = some r := by first | (rw [hji4] at H; exact H) | (simp only [hji4] at H ⊢; exact H)
 (try (have hji4l : 0 ≤ ji4 := by (rw [← hji4]; unfold mx; (repeat' split) <;> omega)))
 (try (have hji4m : 0 ≤ ji4 := by omega))
 have hji4_ : (if a1 < 0 then 0 else a1) = ji4 := hji4
 obtain ⟨ji5, hji5⟩ : ∃ j_ : Int, (mn (ji4) (l0.length : Int)) = j_ := ⟨_, rfl⟩
 replace H : (wrap_Fits.l0 k l0 ji5 a2) = some r := by first | (rw [hji5] at H; exact H) | (simp only [hji5] at H ⊢; exact H)
 have hji5_ : (if (l0.length : Int) < (ji4) then (l0.length : Int) else (ji4)) = ji5 := hji5
 have H' := Aside0.mk H
 clear H
 go_enter Try.func24, Try.ntmps24
 go_wp2
 go_loopg [7, 8] k (fun kq v7 v8 w' => ∃ (x7_1 : Int) (x8_1 : Int), v7 = .int .i64 x7_1 ∧ v8 = .int .i64 x8_1 ∧ Aside0 (wrap_Fits.l0 kq l0 x7_1 x8_1 = some r) ∧ Aside0 (kq ≤ k) ∧ Aside0 (Below w.heap.size w w'))
 case atStart => exact ⟨(ji5), (a2), (by first | rfl | (simp; done) | (simp only [← hji5] <;> (first | rfl | simp)) | (simp [*]; done)), (by first | rfl | (simp; done) | (simp [*]; done)), H', ⟨Nat.le_refl _⟩, ⟨by repeat (first | (with_reducible first | exact HB.out | apply below_alloc | apply pw_below_drewN | apply below_drew1) | exact HB.out)⟩⟩
 case round =>
  clear H'
  try clear c2
  try clear p2
  obtain ⟨x7_1, x8_1, rfl, rfl, HA, HK1, HB⟩ := hrel
  cases gk with
  | zero => exact absurd HA.out (by simp [wrap_Fits.l0])
  | succ k1 =>
   have H := HA.out
   clear HA
   simp only [wrap_Fits.l0] at H
   by_cases c6 : x7_1 < (l0.length : Int)
   ·
    rw [if_pos c6] at H
    have c6b0 : decide (x7_1 < (l0.length : Int)) = true := decide_eq_true c6
    clear c6
    by_cases c7 : 0 ≤ x7_1
    ·
     rw [if_pos c7] at H
     have c7b0 : decide (0 ≤ x7_1) = true := decide_eq_true c7
     clear c7
     obtain ⟨ji8, hji8⟩ : ∃ j_ : Int, (mx ((rd_T39 l0 x7_1).f4) 0) = j_ := ⟨_, rfl⟩
     replace H : (if (ji8) > x8_1 then (some x7_1) else (wrap_Fits.l0 k1 l0 (wrap64 (x7_1 + 1)) (wrap64 (x8_1 - (ji8))))) = some r := by first | (rw [hji8] at H; exact H) | (simp only [hji8] at H ⊢; exact H)
     have hji8_ : (if ((rd_T39 l0 x7_1).f4) < 0 then 0 else ((rd_T39 l0 x7_1).f4)) = ji8 := hji8
     by_cases c9 : (ji8) > x8_1
     ·
      rw [if_pos c9] at H
      have c9b0 : decide (x8_1 < (ji8)) = true := decide_eq_true c9
      clear c9
      obtain rfl := Option.some.inj H
      have p105 : 0 ≤ (x7_1 : Int) := of_decide_eq_true (by first | (with_reducible assumption) | assumption)
      have q105 : x7_1 < (l0.length : Int) := of_decide_eq_true (by first | (with_reducible assumption) | assumption)
      obtain ⟨ad105, e105, hx105_0, hx105_1, hx105_2, hx105_3, hx105_4, hx105_5⟩ := at_T39 HR0.out x7_1 p105 q105
      cases e105
      replace hx105_0 := (HB.out.cell (World.block_lt_of_cell? w _ hx105_0)).trans hx105_0
      replace hx105_1 := (HB.out.cell (World.block_lt_of_cell? w _ hx105_1)).trans hx105_1
      replace hx105_2 := (HB.out.cell (World.block_lt_of_cell? w _ hx105_2)).trans hx105_2
      replace hx105_3 := (HB.out.cell (World.block_lt_of_cell? w _ hx105_3)).trans hx105_3
      replace hx105_4 := (HB.out.cell (World.block_lt_of_cell? w _ hx105_4)).trans hx105_4
      replace hx105_5 := (HB.out.cell (World.block_lt_of_cell? w _ hx105_5)).trans hx105_5
      replace p105 := eq_true p105
      replace q105 := eq_true q105
      go_wp2
      go_ret
      exact ⟨by first | rfl | (simp [errW_none, errW_some] <;> rfl) | (simp only [← hji4, ← hji5, ← hji8]; first | rfl | (simp [errW_none, errW_some] <;> rfl)) | (simp [*, errW_none, errW_some] <;> rfl), by repeat (first | (with_reducible first | exact HB.out | apply below_alloc | apply pw_below_drewN | apply below_drew1) | exact HB.out)⟩
     ·
      rw [if_neg c9] at H
      have c9b0 : decide (x8_1 < (ji8)) = false := decide_eq_false c9
      clear c9
      have H' := Aside0.mk H
      clear H
      have p105 : 0 ≤ (x7_1 : Int) := of_decide_eq_true (by first | (with_reducible assumption) | assumption)
      have q105 : x7_1 < (l0.length : Int) := of_decide_eq_true (by first | (with_reducible assumption) | assumption)
      obtain ⟨ad105, e105, hx105_0, hx105_1, hx105_2, hx105_3, hx105_4, hx105_5⟩ := at_T39 HR0.out x7_1 p105 q105
      cases e105
      replace hx105_0 := (HB.out.cell (World.block_lt_of_cell? w _ hx105_0)).trans hx105_0
      replace hx105_1 := (HB.out.cell (World.block_lt_of_cell? w _ hx105_1)).trans hx105_1
      replace hx105_2 := (HB.out.cell (World.block_lt_of_cell? w _ hx105_2)).trans hx105_2
      replace hx105_3 := (HB.out.cell (World.block_lt_of_cell? w _ hx105_3)).trans hx105_3
      replace hx105_4 := (HB.out.cell (World.block_lt_of_cell? w _ hx105_4)).trans hx105_4
      replace hx105_5 := (HB.out.cell (World.block_lt_of_cell? w _ hx105_5)).trans hx105_5
      replace p105 := eq_true p105
      replace q105 := eq_true q105
      go_wp2
      go_roundg k1
      case measure => have := HK1.out; omega
      case rel => exact ⟨(wrap64 (x7_1 + 1)), (wrap64 (x8_1 - (ji8))), (by first | rfl | (simp; done) | (simp [*]; done)), (by first | rfl | (simp; done) | (simp only [← hji8] <;> (first | rfl | simp)) | (simp [*]; done)), H', ⟨by have := HK1.out; omega⟩, ⟨by repeat (first | (with_reducible first | exact HB.out | apply below_alloc | apply pw_below_drewN | apply below_drew1) | exact HB.out)⟩⟩
    ·
     rw [if_neg c7] at H
     exact absurd H (by simp)
   ·
    rw [if_neg c6] at H
    have c6b0 : decide (x7_1 < (l0.length : Int)) = false := decide_eq_false c6
    clear c6
    obtain rfl := Option.some.inj H
    go_wp2
    go_ret
    exact ⟨by first | rfl | (simp [errW_none, errW_some] <;> rfl) | (simp only [← hji4, ← hji5]; first | rfl | (simp [errW_none, errW_some] <;> rfl)) | (simp [*, errW_none, errW_some] <;> rfl), by repeat (first | (with_reducible first | exact HB.out | apply below_alloc | apply pw_below_drewN | apply below_drew1) | exact HB.out)⟩

-- NOT PRINTED: function 39 (wrap_paragraph_lines)

/-! ### wrap_Blank: function 20 -/
def wrap_Blank.f (a0_0 : Int) (a0_1 : Int) (a0_2 : Int) (a0_3 : Int) (a0_4 : Int) (a0_5 : Int) : Option (Bool) := some (a0_5 == 32)
set_option maxHeartbeats 8000000 in
set_option maxRecDepth 100000 in
theorem wrap_Blank.calls (a0_0 : Int) (a0_1 : Int) (a0_2 : Int) (a0_3 : Int) (a0_4 : Int) (a0_5 : Int) (r : Bool) (w : World) (h : wrap_Blank.f a0_0 a0_1 a0_2 a0_3 a0_4 a0_5 = some r) :
  Calls Try.prog 20 #[.agg #[.int .i64 a0_0, .int .i64 a0_1, .int .i64 a0_2, .int .i64 a0_3, .int .i64 a0_4, .int .i64 a0_5]] w fun e w' => e = .returned (.bool r) ∧ Below w.heap.size w w' := by
 have hu39 := Try.underlying39
 have HB := Aside0.mk (Below.refl w.heap.size w)
 have H : (some (a0_5 == 32)) = some r := h
 clear h
 obtain rfl := Option.some.inj H
 go_enter Try.func20, Try.ntmps20
 go_wp2_with (first | ((with_reducible refine gate_dst (N := 1) rfl ?_); refine box_event ?hg (N := 1) ?hd (cs := #[.int .i64 a0_0, .int .i64 a0_1, .int .i64 a0_2, .int .i64 a0_3, .int .i64 a0_4, .int .i64 a0_5]) (t := 39) ?hr ?_; (case hd => rfl); (case hg => rfl); (case hr => first | (go_simp; done) | (go_simp; rfl)); intro gb106 hg w2 hbox hb; have n0_ := Aside0.mk (below_step (by repeat (first | (with_reducible first | exact HB.out | apply below_alloc | apply pw_below_drewN | apply below_drew1) | exact HB.out)) hb); have n1_ := Aside0.mk (hbox); have n2_ := Aside0.mk ((by rw [hg]; exact (below_size (by repeat (first | (with_reducible first | exact HB.out | apply below_alloc | apply pw_below_drewN | apply below_drew1) | exact HB.out))) : w.heap.size ≤ gb106)); have n3_ := Aside0.mk ((by rw [hg]; exact (below_size (by repeat (first | (with_reducible first | exact HB.out | apply below_alloc | apply pw_below_drewN | apply below_drew1) | exact HB.out))) : w.heap.size ≤ gb106)); clear HB; have HB := n0_; have BK106 := n1_; have GW106 := n2_; have GE106 := n3_; clear n0_ n1_ n2_ n3_; clear hb hbox hg; have hcz3_0 : w2.cell? ⟨gb106, 0, none⟩ = some (.int .i64 a0_0) := (blk_cell BK106.out 0).trans rfl; have hcz3_1 : w2.cell? ⟨gb106, 1, none⟩ = some (.int .i64 a0_1) := (blk_cell BK106.out 1).trans rfl; have hcz3_2 : w2.cell? ⟨gb106, 2, none⟩ = some (.int .i64 a0_2) := (blk_cell BK106.out 2).trans rfl; have hcz3_3 : w2.cell? ⟨gb106, 3, none⟩ = some (.int .i64 a0_3) := (blk_cell BK106.out 3).trans rfl; have hcz3_4 : w2.cell? ⟨gb106, 4, none⟩ = some (.int .i64 a0_4) := (blk_cell BK106.out 4).trans rfl; have hcz3_5 : w2.cell? ⟨gb106, 5, none⟩ = some (.int .i64 a0_5) := (blk_cell BK106.out 5).trans rfl; have hfz3_0 := blk_frozen BK106.out 0; have hfz3_1 := blk_frozen BK106.out 1; have hfz3_2 := blk_frozen BK106.out 2; have hfz3_3 := blk_frozen BK106.out 3; have hfz3_4 := blk_frozen BK106.out 4; have hfz3_5 := blk_frozen BK106.out 5))
 go_ret
 exact ⟨by first | rfl | (simp [errW_none, errW_some] <;> rfl) | (simp [*, errW_none, errW_some] <;> rfl), by repeat (first | (with_reducible first | exact HB.out | apply below_alloc | apply pw_below_drewN | apply below_drew1 | refine below_set ?_ GE106.out) | exact HB.out)⟩

/-! ### wrap_paragraph_blanks: function 53 -/
mutual
def wrap_paragraph_blanks.j1 : Nat → Int → Int → List (S39) → Int → Option (Int × Int)
 | 0, _, _, _, _ => none
 | k + 1, x4, x5, x108000, x108001 => wrap_paragraph_blanks.l1 k x4 x5 x108000 x108001
def wrap_paragraph_blanks.l1 : Nat → Int → Int → List (S39) → Int → Option (Int × Int)
 | 0, _, _, _, _ => none
 | k + 1, x4, x5, x108000, x108001 => if x5 < (x108000.length : Int) then (if 0 ≤ x5 then ((wrap_Blank.f ((rd_T39 x108000 x5).f0) ((rd_T39 x108000 x5).f1) ((rd_T39 x108000 x5).f2) ((rd_T39 x108000 x5).f3) ((rd_T39 x108000 x5).f4) ((rd_T39 x108000 x5).f5)).bind fun t111 => (if t111 = true then (wrap_paragraph_blanks.l1 k x4 (wrap64 (x5 + 1)) x108000 x108001) else (some (x4, x5)))) else (none)) else (some (x4, x5))
def wrap_paragraph_blanks.l0 : Nat → Int → Int → List (S39) → Int → Option (Int × Int)
 | 0, _, _, _, _ => none
 | k + 1, x4, x5, x108000, x108001 => if x4 > 0 then (if 0 ≤ (wrap64 (x4 - 1)) then (if (wrap64 (x4 - 1)) < (x108000.length : Int) then ((wrap_Blank.f ((rd_T39 x108000 (wrap64 (x4 - 1))).f0) ((rd_T39 x108000 (wrap64 (x4 - 1))).f1) ((rd_T39 x108000 (wrap64 (x4 - 1))).f2) ((rd_T39 x108000 (wrap64 (x4 - 1))).f3) ((rd_T39 x108000 (wrap64 (x4 - 1))).f4) ((rd_T39 x108000 (wrap64 (x4 - 1))).f5)).bind fun t109 => (if t109 = true then (wrap_paragraph_blanks.l0 k (wrap64 (x4 - 1)) x5 x108000 x108001) else (wrap_paragraph_blanks.j1 k x4 x5 x108000 x108001))) else (none)) else (none)) else (wrap_paragraph_blanks.j1 k x4 x5 x108000 x108001)
end
def wrap_paragraph_blanks.f (k : Nat) (l0_0 : List (S39)) (a0_1 : Int) (a1 : Int) : Option (Int × Int) := wrap_paragraph_blanks.l0 k a1 a1 l0_0 a0_1
theorem wrap_paragraph_blanks.mono_l : ∀ k, (∀ y0 y1 y2 y3, LeO (wrap_paragraph_blanks.j1 k y0 y1 y2 y3) (wrap_paragraph_blanks.j1 (k + 1) y0 y1 y2 y3)) ∧ (∀ y0 y1 y2 y3, LeO (wrap_paragraph_blanks.l1 k y0 y1 y2 y3) (wrap_paragraph_blanks.l1 (k + 1) y0 y1 y2 y3)) ∧ (∀ y0 y1 y2 y3, LeO (wrap_paragraph_blanks.l0 k y0 y1 y2 y3) (wrap_paragraph_blanks.l0 (k + 1) y0 y1 y2 y3))
 | 0 => ⟨fun _ _ _ _ r h => by simp [wrap_paragraph_blanks.j1] at h, fun _ _ _ _ r h => by simp [wrap_paragraph_blanks.l1] at h, fun _ _ _ _ r h => by simp [wrap_paragraph_blanks.l0] at h⟩
 | k + 1 => by
  obtain ⟨ih0, ih1, ih2⟩ := wrap_paragraph_blanks.mono_l k
  refine ⟨?_, ?_, ?_⟩
  ·
   intro y0 y1 y2 y3
   unfold wrap_paragraph_blanks.j1
   repeat' first
   | (with_reducible exact ih0 _ _ _ _)
   | (with_reducible exact ih1 _ _ _ _)
   | (with_reducible exact ih2 _ _ _ _)
   | (with_reducible exact LeO.refl _)
   | (with_reducible exact LeO.none _)
   | (with_reducible refine LeO.ite ?_ ?_)
   | (with_reducible refine LeO.bind ?_ (fun _ => ?_))
   | exact ih0 _ _ _ _
   | exact ih1 _ _ _ _
   | exact ih2 _ _ _ _
   | exact LeO.none _
   | refine LeO.ite ?_ ?_
   | refine LeO.bind ?_ (fun _ => ?_)
  ·
   intro y0 y1 y2 y3
   unfold wrap_paragraph_blanks.l1
   repeat' first
   | (with_reducible exact ih0 _ _ _ _)
   | (with_reducible exact ih1 _ _ _ _)
   | (with_reducible exact ih2 _ _ _ _)
   | (with_reducible exact LeO.refl _)
   | (with_reducible exact LeO.none _)
   | (with_reducible refine LeO.ite ?_ ?_)
   | (with_reducible refine LeO.bind ?_ (fun _ => ?_))
   | exact ih0 _ _ _ _
   | exact ih1 _ _ _ _
   | exact ih2 _ _ _ _
   | exact LeO.none _
   | refine LeO.ite ?_ ?_
   | refine LeO.bind ?_ (fun _ => ?_)
  ·
   intro y0 y1 y2 y3
   unfold wrap_paragraph_blanks.l0
   repeat' first
   | (with_reducible exact ih0 _ _ _ _)
   | (with_reducible exact ih1 _ _ _ _)
   | (with_reducible exact ih2 _ _ _ _)
   | (with_reducible exact LeO.refl _)
   | (with_reducible exact LeO.none _)
   | (with_reducible refine LeO.ite ?_ ?_)
   | (with_reducible refine LeO.bind ?_ (fun _ => ?_))
   | exact ih0 _ _ _ _
   | exact ih1 _ _ _ _
   | exact ih2 _ _ _ _
   | exact LeO.none _
   | refine LeO.ite ?_ ?_
   | refine LeO.bind ?_ (fun _ => ?_)
theorem wrap_paragraph_blanks.mono : ∀ a0 a1 a2 k, LeO (wrap_paragraph_blanks.f k a0 a1 a2) (wrap_paragraph_blanks.f (k + 1) a0 a1 a2) := by
 intro a0 a1 a2 k
 obtain ⟨ih0, ih1, ih2⟩ := wrap_paragraph_blanks.mono_l k
 unfold wrap_paragraph_blanks.f
 repeat' first
   | (with_reducible exact ih0 _ _ _ _)
   | (with_reducible exact ih1 _ _ _ _)
   | (with_reducible exact ih2 _ _ _ _)
   | (with_reducible exact LeO.refl _)
   | (with_reducible exact LeO.none _)
   | (with_reducible refine LeO.ite ?_ ?_)
   | (with_reducible refine LeO.bind ?_ (fun _ => ?_))
   | exact ih0 _ _ _ _
   | exact ih1 _ _ _ _
   | exact ih2 _ _ _ _
   | exact LeO.none _
   | refine LeO.ite ?_ ?_
   | refine LeO.bind ?_ (fun _ => ?_)
set_option maxHeartbeats 8000000 in
set_option maxRecDepth 100000 in
theorem wrap_paragraph_blanks.calls (k : Nat) (A0_0 : Option Addr) (c0_0 : Nat) (l0_0 : List (S39)) (a0_1 : Int) (a1 : Int) (r1 : Int) (r2 : Int) (w : World) (hr0_0 : Kd.C k39 w A0_0 l0_0.length l0_0) (hc0_0 : l0_0.length ≤ c0_0) (h : wrap_paragraph_blanks.f k l0_0 a0_1 a1 = some (r1, r2)) :
  Calls Try.prog 53 #[.agg #[.slice A0_0 l0_0.length c0_0, .int .i64 a0_1], .int .i64 a1] w fun e w' => e = .returned (.tuple #[.int .i64 r1, .int .i64 r2]) ∧ Below w.heap.size w w' := by
 have hu59 := Try.underlying59
 have hu39 := Try.underlying39
 have HR0_0 := Aside0.mk hr0_0
 have HC0_0 := Aside0.mk hc0_0
 clear hr0_0 hc0_0
 have HB := Aside0.mk (Below.refl w.heap.size w)
 have H : (wrap_paragraph_blanks.l0 k a1 a1 l0_0 a0_1) = some (r1, r2) := h
 clear h
 have HC3 := Aside0.mk H
 clear H
 go_enter Try.func53, Try.ntmps53
 go_upto_block 0 with (first | ((with_reducible refine gate_dst (N := 2) rfl ?_); refine box_event ?hg (N := 2) ?hd (cs := #[.slice A0_0 l0_0.length c0_0, .int .i64 a0_1]) (t := 59) ?hr ?_; (case hd => rfl); (case hg => rfl); (case hr => first | (go_simp; done) | (go_simp; rfl)); intro gb107 hg w4 hbox hb; have n0_ := Aside0.mk (below_step (by repeat (first | (with_reducible first | exact HB.out | apply below_alloc | apply pw_below_drewN | apply below_drew1) | exact HB.out)) hb); have n1_ := Aside0.mk (hbox); have n2_ := Aside0.mk ((by rw [hg]; exact (below_size (by repeat (first | (with_reducible first | exact HB.out | apply below_alloc | apply pw_below_drewN | apply below_drew1) | exact HB.out))) : w.heap.size ≤ gb107)); have n3_ := Aside0.mk ((by rw [hg]; exact (below_size (by repeat (first | (with_reducible first | exact HB.out | apply below_alloc | apply pw_below_drewN | apply below_drew1) | exact HB.out))) : w.heap.size ≤ gb107)); clear HB; have HB := n0_; have BK107 := n1_; have GW107 := n2_; have GE107 := n3_; clear n0_ n1_ n2_ n3_; clear hb hbox hg))
 (try simp only [Act.put, List.setIfInBounds_toArray, List.set_cons_zero, List.set_cons_succ])
 go_cut [4] (fun v4 wc => ∃ (kq : Nat) (x4_2 : Int), v4 = .int .i64 x4_2 ∧ Aside0 (wrap_paragraph_blanks.j1 kq x4_2 a1 l0_0 a0_1 = some (r1, r2)) ∧ Aside0 (kq ≤ k) ∧ Aside0 (wc.heap[gb107]? = some (.cells #[(.slice A0_0 l0_0.length c0_0), .int .i64 a0_1] 59 (0, 0))) ∧ Aside0 (Below w.heap.size w wc))
 case first =>
  have H := HC3.out
  clear HC3
  have H' := Aside0.mk H
  clear H
  go_wp2
  go_loopg [4] k (fun kq v4 w' => ∃ (x4_1 : Int), v4 = .int .i64 x4_1 ∧ Aside0 (wrap_paragraph_blanks.l0 kq x4_1 a1 l0_0 a0_1 = some (r1, r2)) ∧ Aside0 (kq ≤ k) ∧ Aside0 (w'.heap[gb107]? = some (.cells #[(.slice A0_0 l0_0.length c0_0), .int .i64 a0_1] 59 (0, 0))) ∧ Aside0 (Below w.heap.size w w'))
  case atStart => exact ⟨(a1), (by first | rfl | (simp; done) | (simp [*]; done)), H', ⟨Nat.le_refl _⟩, ⟨by (with_reducible repeat (first | refine blk_drewN ?_ _ | refine blk_drew ?_ | refine blk_alloc ?_ _)); exact BK107.out⟩, ⟨by repeat (first | (with_reducible first | exact HB.out | apply below_alloc | apply pw_below_drewN | apply below_drew1 | refine below_set ?_ GE107.out) | exact HB.out)⟩⟩
  case round =>
   clear H'
   try clear p2
   obtain ⟨x4_1, rfl, HA, HK1, BK107, HB⟩ := hrel
   cases gk with
   | zero => exact absurd HA.out (by simp [wrap_paragraph_blanks.l0])
   | succ k1 =>
    have H := HA.out
    clear HA
    simp only [wrap_paragraph_blanks.l0] at H
    by_cases c5 : x4_1 > 0
    ·
     rw [if_pos c5] at H
     have c5b0 : decide (0 < x4_1) = true := decide_eq_true c5
     clear c5
     (first | rw [c5b0] | (simp only [i64_w, i32_w]; rw [c5b0]) | skip)
     obtain ⟨ji6, hji6⟩ : ∃ j_ : Int, (wrap64 (x4_1 - 1)) = j_ := ⟨_, rfl⟩
     replace H : (if 0 ≤ (ji6) then (if (ji6) < (l0_0.length : Int) then ((wrap_Blank.f ((rd_T39 l0_0 (ji6)).f0) ((rd_T39 l0_0 (ji6)).f1) ((rd_T39 l0_0 (ji6)).f2) ((rd_T39 l0_0 (ji6)).f3) ((rd_T39 l0_0 (ji6)).f4) ((rd_T39 l0_0 (ji6)).f5)).bind fun t109 => (if t109 = true then (wrap_paragraph_blanks.l0 k1 ji6 a1 l0_0 a0_1) else (wrap_paragraph_blanks.j1 k1 x4_1 a1 l0_0 a0_1))) else (none)) else (none)) = some (r1, r2) := by first | (rw [hji6] at H; exact H) | (simp only [hji6] at H ⊢; exact H)
     have hji6w : (IntKind.i64.wrap (x4_1 - 1)) = ji6 := (i64_w _).trans hji6
     by_cases c7 : 0 ≤ (ji6)
     ·
      rw [if_pos c7] at H
      have c7b0 : decide (0 ≤ (ji6)) = true := decide_eq_true c7
      clear c7
      by_cases c8 : (ji6) < (l0_0.length : Int)
      ·
       rw [if_pos c8] at H
       have c8b0 : decide ((ji6) < (l0_0.length : Int)) = true := decide_eq_true c8
       clear c8
       replace H := Option.bind_eq_some_iff.mp H
       obtain ⟨t109, A90, H⟩ := H
       replace H : (if t109 = true then (wrap_paragraph_blanks.l0 k1 ji6 a1 l0_0 a0_1) else (wrap_paragraph_blanks.j1 k1 x4_1 a1 l0_0 a0_1)) = some (r1, r2) := H
       have A9 := Aside0.mk A90
       clear A90
       by_cases c10 : t109 = true
       ·
        subst c10
        have H1 : (wrap_paragraph_blanks.l0 k1 ji6 a1 l0_0 a0_1) = some (r1, r2) := by rw [if_pos rfl] at H; exact H
        clear H
        have H := H1
        clear H1
        have H' := Aside0.mk H
        clear H
        have hcz11_0 : wr.cell? ⟨gb107, 0, none⟩ = some (.slice A0_0 l0_0.length c0_0) := (blk_cell BK107.out 0).trans rfl
        have hcz11_1 : wr.cell? ⟨gb107, 1, none⟩ = some (.int .i64 a0_1) := (blk_cell BK107.out 1).trans rfl
        have hfz11_0 := blk_frozen BK107.out 0
        have hfz11_1 := blk_frozen BK107.out 1
        have p108 : 0 ≤ ((ji6) : Int) := of_decide_eq_true (by first | (with_reducible assumption) | assumption)
        have q108 : (ji6) < (l0_0.length : Int) := of_decide_eq_true (by first | (with_reducible assumption) | assumption)
        obtain ⟨ad108, e108, hx108_0, hx108_1, hx108_2, hx108_3, hx108_4, hx108_5⟩ := at_T39 HR0_0.out (ji6) p108 q108
        cases e108
        replace hx108_0 := (HB.out.cell (World.block_lt_of_cell? w _ hx108_0)).trans hx108_0
        replace hx108_1 := (HB.out.cell (World.block_lt_of_cell? w _ hx108_1)).trans hx108_1
        replace hx108_2 := (HB.out.cell (World.block_lt_of_cell? w _ hx108_2)).trans hx108_2
        replace hx108_3 := (HB.out.cell (World.block_lt_of_cell? w _ hx108_3)).trans hx108_3
        replace hx108_4 := (HB.out.cell (World.block_lt_of_cell? w _ hx108_4)).trans hx108_4
        replace hx108_5 := (HB.out.cell (World.block_lt_of_cell? w _ hx108_5)).trans hx108_5
        replace p108 := eq_true p108
        replace q108 := eq_true q108
        go_wp2_with (first | (go_at_call 20; (with_reducible refine (wrap_Blank.calls ((rd_T39 l0_0 (ji6)).f0) ((rd_T39 l0_0 (ji6)).f1) ((rd_T39 l0_0 (ji6)).f2) ((rd_T39 l0_0 (ji6)).f3) ((rd_T39 l0_0 (ji6)).f4) ((rd_T39 l0_0 (ji6)).f5) true _ A9.out).mono ?_); rintro e w12 ⟨rfl, hb⟩; have n0_ := Aside0.mk (blk_below (g := gb107) (o := .cells #[.slice (some ad108) l0_0.length c0_0, .int .i64 a0_1] 59 (0, 0)) (by (with_reducible repeat (first | refine blk_drewN ?_ _ | refine blk_drew ?_ | refine blk_alloc ?_ _)); exact BK107.out) hb); have n1_ := Aside0.mk (below_step (by repeat (first | (with_reducible first | exact HB.out | apply below_alloc | apply pw_below_drewN | apply below_drew1 | refine below_set ?_ GE107.out) | exact HB.out)) hb); clear BK107; clear HB; have BK107 := n0_; have HB := n1_; clear n0_ n1_; (try clear hb); (try clear hb2); (try clear hk); (try clear hi)))
        go_roundg k1
        case measure => have := HK1.out; omega
        case rel => exact ⟨(ji6), (by first | rfl | (simp; done) | (simp only [← hji6] <;> (first | rfl | simp)) | (simp [*]; done)), H', ⟨by have := HK1.out; omega⟩, ⟨by (with_reducible repeat (first | refine blk_drewN ?_ _ | refine blk_drew ?_ | refine blk_alloc ?_ _)); exact BK107.out⟩, ⟨by repeat (first | (with_reducible first | exact HB.out | apply below_alloc | apply pw_below_drewN | apply below_drew1 | refine below_set ?_ GE107.out) | exact HB.out)⟩⟩
       ·
        replace c10 := Bool.eq_false_iff.mpr c10
        subst c10
        have H1 : (wrap_paragraph_blanks.j1 k1 x4_1 a1 l0_0 a0_1) = some (r1, r2) := by rw [if_neg (show ¬ (false = true) by decide)] at H; exact H
        clear H
        have H := H1
        clear H1
        have H' := Aside0.mk H
        clear H
        have hcz13_0 : wr.cell? ⟨gb107, 0, none⟩ = some (.slice A0_0 l0_0.length c0_0) := (blk_cell BK107.out 0).trans rfl
        have hcz13_1 : wr.cell? ⟨gb107, 1, none⟩ = some (.int .i64 a0_1) := (blk_cell BK107.out 1).trans rfl
        have hfz13_0 := blk_frozen BK107.out 0
        have hfz13_1 := blk_frozen BK107.out 1
        have p108 : 0 ≤ ((ji6) : Int) := of_decide_eq_true (by first | (with_reducible assumption) | assumption)
        have q108 : (ji6) < (l0_0.length : Int) := of_decide_eq_true (by first | (with_reducible assumption) | assumption)
        obtain ⟨ad108, e108, hx108_0, hx108_1, hx108_2, hx108_3, hx108_4, hx108_5⟩ := at_T39 HR0_0.out (ji6) p108 q108
        cases e108
        replace hx108_0 := (HB.out.cell (World.block_lt_of_cell? w _ hx108_0)).trans hx108_0
        replace hx108_1 := (HB.out.cell (World.block_lt_of_cell? w _ hx108_1)).trans hx108_1
        replace hx108_2 := (HB.out.cell (World.block_lt_of_cell? w _ hx108_2)).trans hx108_2
        replace hx108_3 := (HB.out.cell (World.block_lt_of_cell? w _ hx108_3)).trans hx108_3
        replace hx108_4 := (HB.out.cell (World.block_lt_of_cell? w _ hx108_4)).trans hx108_4
        replace hx108_5 := (HB.out.cell (World.block_lt_of_cell? w _ hx108_5)).trans hx108_5
        replace p108 := eq_true p108
        replace q108 := eq_true q108
        go_wp2_with (first | (go_at_call 20; (with_reducible refine (wrap_Blank.calls ((rd_T39 l0_0 (ji6)).f0) ((rd_T39 l0_0 (ji6)).f1) ((rd_T39 l0_0 (ji6)).f2) ((rd_T39 l0_0 (ji6)).f3) ((rd_T39 l0_0 (ji6)).f4) ((rd_T39 l0_0 (ji6)).f5) false _ A9.out).mono ?_); rintro e w14 ⟨rfl, hb⟩; have n0_ := Aside0.mk (blk_below (g := gb107) (o := .cells #[.slice (some ad108) l0_0.length c0_0, .int .i64 a0_1] 59 (0, 0)) (by (with_reducible repeat (first | refine blk_drewN ?_ _ | refine blk_drew ?_ | refine blk_alloc ?_ _)); exact BK107.out) hb); have n1_ := Aside0.mk (below_step (by repeat (first | (with_reducible first | exact HB.out | apply below_alloc | apply pw_below_drewN | apply below_drew1 | refine below_set ?_ GE107.out) | exact HB.out)) hb); clear BK107; clear HB; have BK107 := n0_; have HB := n1_; clear n0_ n1_; (try clear hb); (try clear hb2); (try clear hk); (try clear hi)))
        go_meet
        case rel => exact ⟨_, (x4_1), (by first | rfl | (simp; done) | (simp [*]; done)), H', ⟨by have := HK1.out; first | omega | exact Nat.le_refl _⟩, ⟨by (with_reducible repeat (first | refine blk_drewN ?_ _ | refine blk_drew ?_ | refine blk_alloc ?_ _)); exact BK107.out⟩, ⟨by repeat (first | (with_reducible first | exact HB.out | apply below_alloc | apply pw_below_drewN | apply below_drew1 | refine below_set ?_ GE107.out) | exact HB.out)⟩⟩
      ·
       rw [if_neg c8] at H
       exact absurd H (by simp)
     ·
      rw [if_neg c7] at H
      exact absurd H (by simp)
    ·
     rw [if_neg c5] at H
     have c5b0 : decide (0 < x4_1) = false := decide_eq_false c5
     clear c5
     (first | rw [c5b0] | (simp only [i64_w, i32_w]; rw [c5b0]) | skip)
     have H' := Aside0.mk H
     clear H
     go_wp2
     go_meet
     case rel => exact ⟨_, (x4_1), (by first | rfl | (simp; done) | (simp [*]; done)), H', ⟨by have := HK1.out; first | omega | exact Nat.le_refl _⟩, ⟨by (with_reducible repeat (first | refine blk_drewN ?_ _ | refine blk_drew ?_ | refine blk_alloc ?_ _)); exact BK107.out⟩, ⟨by repeat (first | (with_reducible first | exact HB.out | apply below_alloc | apply pw_below_drewN | apply below_drew1 | refine below_set ?_ GE107.out) | exact HB.out)⟩⟩
 case rest =>
  clear HC3
  try clear c1
  try clear p1
  try clear q1
  try clear hx1
  try clear p2
  try clear c5
  try clear c5b0
  try clear p6
  try clear c7
  try clear c7b0
  try clear c8
  try clear c8b0
  try clear c10
  try clear p10
  try clear q10
  try clear hx10
  try clear hcz11_0
  try clear hcz11_1
  try clear hcz13_0
  try clear hcz13_1
  try clear hfz11_0
  try clear hfz11_1
  try clear hfz13_0
  try clear hfz13_1
  try clear hx108_0
  try clear hx108_1
  try clear hx108_2
  try clear hx108_3
  try clear hx108_4
  try clear hx108_5
  try clear p108
  try clear q108
  obtain ⟨kq, x4_2, rfl, HA, HJ2, BK107, HB⟩ := hcut
  cases kq with
  | zero => exact absurd HA.out (by simp [wrap_paragraph_blanks.j1])
  | succ kj2 =>
   have H := HA.out
   clear HA
   simp only [wrap_paragraph_blanks.j1] at H
   have H' := Aside0.mk H
   clear H
   go_wp2
   go_loopg [5] kj2 (fun kq v5 w' => ∃ (x5_2 : Int), v5 = .int .i64 x5_2 ∧ Aside0 (wrap_paragraph_blanks.l1 kq x4_2 x5_2 l0_0 a0_1 = some (r1, r2)) ∧ Aside0 (kq ≤ kj2) ∧ Aside0 (w'.heap[gb107]? = some (.cells #[(.slice A0_0 l0_0.length c0_0), .int .i64 a0_1] 59 (0, 0))) ∧ Aside0 (Below w.heap.size w w'))
   case atStart => exact ⟨(a1), (by first | rfl | (simp; done) | (simp [*]; done)), H', ⟨Nat.le_refl _⟩, ⟨by (with_reducible repeat (first | refine blk_drewN ?_ _ | refine blk_drew ?_ | refine blk_alloc ?_ _)); exact BK107.out⟩, ⟨by repeat (first | (with_reducible first | exact HB.out | apply below_alloc | apply pw_below_drewN | apply below_drew1 | refine below_set ?_ GE107.out) | exact HB.out)⟩⟩
   case round =>
    clear H'
    obtain ⟨x5_2, rfl, HA, HK2, BK107, HB⟩ := hrel
    cases gk with
    | zero => exact absurd HA.out (by simp [wrap_paragraph_blanks.l1])
    | succ k2 =>
     have H := HA.out
     clear HA
     simp only [wrap_paragraph_blanks.l1] at H
     by_cases c15 : x5_2 < (l0_0.length : Int)
     ·
      rw [if_pos c15] at H
      have c15b0 : decide (x5_2 < (l0_0.length : Int)) = true := decide_eq_true c15
      clear c15
      by_cases c16 : 0 ≤ x5_2
      ·
       rw [if_pos c16] at H
       have c16b0 : decide (0 ≤ x5_2) = true := decide_eq_true c16
       clear c16
       replace H := Option.bind_eq_some_iff.mp H
       obtain ⟨t111, A170, H⟩ := H
       replace H : (if t111 = true then (wrap_paragraph_blanks.l1 k2 x4_2 (wrap64 (x5_2 + 1)) l0_0 a0_1) else (some (x4_2, x5_2))) = some (r1, r2) := H
       have A17 := Aside0.mk A170
       clear A170
       by_cases c18 : t111 = true
       ·
        subst c18
        have H1 : (wrap_paragraph_blanks.l1 k2 x4_2 (wrap64 (x5_2 + 1)) l0_0 a0_1) = some (r1, r2) := by rw [if_pos rfl] at H; exact H
        clear H
        have H := H1
        clear H1
        have H' := Aside0.mk H
        clear H
        have hcz19_0 : wr.cell? ⟨gb107, 0, none⟩ = some (.slice A0_0 l0_0.length c0_0) := (blk_cell BK107.out 0).trans rfl
        have hcz19_1 : wr.cell? ⟨gb107, 1, none⟩ = some (.int .i64 a0_1) := (blk_cell BK107.out 1).trans rfl
        have hfz19_0 := blk_frozen BK107.out 0
        have hfz19_1 := blk_frozen BK107.out 1
        have p110 : 0 ≤ (x5_2 : Int) := of_decide_eq_true (by first | (with_reducible assumption) | assumption)
        have q110 : x5_2 < (l0_0.length : Int) := of_decide_eq_true (by first | (with_reducible assumption) | assumption)
        obtain ⟨ad110, e110, hx110_0, hx110_1, hx110_2, hx110_3, hx110_4, hx110_5⟩ := at_T39 HR0_0.out x5_2 p110 q110
        cases e110
        replace hx110_0 := (HB.out.cell (World.block_lt_of_cell? w _ hx110_0)).trans hx110_0
        replace hx110_1 := (HB.out.cell (World.block_lt_of_cell? w _ hx110_1)).trans hx110_1
        replace hx110_2 := (HB.out.cell (World.block_lt_of_cell? w _ hx110_2)).trans hx110_2
        replace hx110_3 := (HB.out.cell (World.block_lt_of_cell? w _ hx110_3)).trans hx110_3
        replace hx110_4 := (HB.out.cell (World.block_lt_of_cell? w _ hx110_4)).trans hx110_4
        replace hx110_5 := (HB.out.cell (World.block_lt_of_cell? w _ hx110_5)).trans hx110_5
        replace p110 := eq_true p110
        replace q110 := eq_true q110
        go_wp2_with (first | (go_at_call 20; (with_reducible refine (wrap_Blank.calls ((rd_T39 l0_0 x5_2).f0) ((rd_T39 l0_0 x5_2).f1) ((rd_T39 l0_0 x5_2).f2) ((rd_T39 l0_0 x5_2).f3) ((rd_T39 l0_0 x5_2).f4) ((rd_T39 l0_0 x5_2).f5) true _ A17.out).mono ?_); rintro e w20 ⟨rfl, hb⟩; have n0_ := Aside0.mk (blk_below (g := gb107) (o := .cells #[.slice (some ad110) l0_0.length c0_0, .int .i64 a0_1] 59 (0, 0)) (by (with_reducible repeat (first | refine blk_drewN ?_ _ | refine blk_drew ?_ | refine blk_alloc ?_ _)); exact BK107.out) hb); have n1_ := Aside0.mk (below_step (by repeat (first | (with_reducible first | exact HB.out | apply below_alloc | apply pw_below_drewN | apply below_drew1 | refine below_set ?_ GE107.out) | exact HB.out)) hb); clear BK107; clear HB; have BK107 := n0_; have HB := n1_; clear n0_ n1_; (try clear hb); (try clear hb2); (try clear hk); (try clear hi)))
        go_roundg k2
        case measure => have := HJ2.out; have := HK2.out; omega
        case rel => exact ⟨(wrap64 (x5_2 + 1)), (by first | rfl | (simp; done) | (simp [*]; done)), H', ⟨by have := HJ2.out; have := HK2.out; omega⟩, ⟨by (with_reducible repeat (first | refine blk_drewN ?_ _ | refine blk_drew ?_ | refine blk_alloc ?_ _)); exact BK107.out⟩, ⟨by repeat (first | (with_reducible first | exact HB.out | apply below_alloc | apply pw_below_drewN | apply below_drew1 | refine below_set ?_ GE107.out) | exact HB.out)⟩⟩
       ·
        replace c18 := Bool.eq_false_iff.mpr c18
        subst c18
        have H1 : (some (x4_2, x5_2)) = some (r1, r2) := by rw [if_neg (show ¬ (false = true) by decide)] at H; exact H
        clear H
        have H := H1
        clear H1
        simp only [Option.some.injEq, Prod.mk.injEq] at H
        obtain ⟨rfl, rfl⟩ := H
        have hcz21_0 : wr.cell? ⟨gb107, 0, none⟩ = some (.slice A0_0 l0_0.length c0_0) := (blk_cell BK107.out 0).trans rfl
        have hcz21_1 : wr.cell? ⟨gb107, 1, none⟩ = some (.int .i64 a0_1) := (blk_cell BK107.out 1).trans rfl
        have hfz21_0 := blk_frozen BK107.out 0
        have hfz21_1 := blk_frozen BK107.out 1
        have p110 : 0 ≤ (x5_2 : Int) := of_decide_eq_true (by first | (with_reducible assumption) | assumption)
        have q110 : x5_2 < (l0_0.length : Int) := of_decide_eq_true (by first | (with_reducible assumption) | assumption)
        obtain ⟨ad110, e110, hx110_0, hx110_1, hx110_2, hx110_3, hx110_4, hx110_5⟩ := at_T39 HR0_0.out x5_2 p110 q110
        cases e110
        replace hx110_0 := (HB.out.cell (World.block_lt_of_cell? w _ hx110_0)).trans hx110_0
        replace hx110_1 := (HB.out.cell (World.block_lt_of_cell? w _ hx110_1)).trans hx110_1
        replace hx110_2 := (HB.out.cell (World.block_lt_of_cell? w _ hx110_2)).trans hx110_2
        replace hx110_3 := (HB.out.cell (World.block_lt_of_cell? w _ hx110_3)).trans hx110_3
        replace hx110_4 := (HB.out.cell (World.block_lt_of_cell? w _ hx110_4)).trans hx110_4
        replace hx110_5 := (HB.out.cell (World.block_lt_of_cell? w _ hx110_5)).trans hx110_5
        replace p110 := eq_true p110
        replace q110 := eq_true q110
        go_wp2_with (first | (go_at_call 20; (with_reducible refine (wrap_Blank.calls ((rd_T39 l0_0 x5_2).f0) ((rd_T39 l0_0 x5_2).f1) ((rd_T39 l0_0 x5_2).f2) ((rd_T39 l0_0 x5_2).f3) ((rd_T39 l0_0 x5_2).f4) ((rd_T39 l0_0 x5_2).f5) false _ A17.out).mono ?_); rintro e w22 ⟨rfl, hb⟩; have n0_ := Aside0.mk (blk_below (g := gb107) (o := .cells #[.slice (some ad110) l0_0.length c0_0, .int .i64 a0_1] 59 (0, 0)) (by (with_reducible repeat (first | refine blk_drewN ?_ _ | refine blk_drew ?_ | refine blk_alloc ?_ _)); exact BK107.out) hb); have n1_ := Aside0.mk (below_step (by repeat (first | (with_reducible first | exact HB.out | apply below_alloc | apply pw_below_drewN | apply below_drew1 | refine below_set ?_ GE107.out) | exact HB.out)) hb); clear BK107; clear HB; have BK107 := n0_; have HB := n1_; clear n0_ n1_; (try clear hb); (try clear hb2); (try clear hk); (try clear hi)))
        go_ret2
        exact ⟨by first | rfl | (simp [errW_none, errW_some] <;> rfl) | (simp [*, errW_none, errW_some] <;> rfl), by repeat (first | (with_reducible first | exact HB.out | apply below_alloc | apply pw_below_drewN | apply below_drew1 | refine below_set ?_ GE107.out) | exact HB.out)⟩
      ·
       rw [if_neg c16] at H
       exact absurd H (by simp)
     ·
      rw [if_neg c15] at H
      have c15b0 : decide (x5_2 < (l0_0.length : Int)) = false := decide_eq_false c15
      clear c15
      simp only [Option.some.injEq, Prod.mk.injEq] at H
      obtain ⟨rfl, rfl⟩ := H
      have hcz23_0 : wr.cell? ⟨gb107, 0, none⟩ = some (.slice A0_0 l0_0.length c0_0) := (blk_cell BK107.out 0).trans rfl
      have hcz23_1 : wr.cell? ⟨gb107, 1, none⟩ = some (.int .i64 a0_1) := (blk_cell BK107.out 1).trans rfl
      have hfz23_0 := blk_frozen BK107.out 0
      have hfz23_1 := blk_frozen BK107.out 1
      go_wp2
      go_ret2
      exact ⟨by first | rfl | (simp [errW_none, errW_some] <;> rfl) | (simp [*, errW_none, errW_some] <;> rfl), by repeat (first | (with_reducible first | exact HB.out | apply below_alloc | apply pw_below_drewN | apply below_drew1 | refine below_set ?_ GE107.out) | exact HB.out)⟩

end Go.Proofs.Ytieffcjbbhigbaa.PC17
