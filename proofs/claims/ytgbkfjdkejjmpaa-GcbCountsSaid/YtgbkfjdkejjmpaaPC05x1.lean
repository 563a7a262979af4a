/- For the laws of the group C05: the Lean functions that the Go functions compute, and proofs that they do. Written by wip/hprint.py of this repo over the kit's printer; nothing here is trusted: Lean checks it. -/
import Derived.Test.YtgbkfjdkejjmpaaPC05x0
namespace Go.Proofs.Ytgbkfjdkejjmpaa.PC05
open Go.RowKit Go.Proofs.YtgbkfjdkejjmpaaW.PrintWords Go.Proofs.YtgbkfjdkejjmpaaW.PrintLast Go.Proofs.YtgbkfjdkejjmpaaW.PrintMore
attribute [local go_sem] max2_int min2_int max_two min_two max_three min_three max_four min_four   -- for this text's walks alone
set_option linter.unusedVariables false
set_option linter.unusedSimpArgs false

-- NOT PRINTED: function 46 (gcb_steps)

-- NOT PRINTED: function 47 (gcb_step_int)

/-! ### gcb_Of: function 22: by hand -/
structure gcb_Of.Row where
  f : Int
  k : Int
def gcb_Of.rowsL : List gcb_Of.Row := [⟨0, 3⟩, ⟨10, 2⟩, ⟨11, 3⟩, ⟨13, 1⟩, ⟨14, 3⟩, ⟨32, 0⟩, ⟨127, 3⟩, ⟨160, 0⟩, ⟨173, 3⟩, ⟨174, 0⟩, ⟨768, 4⟩, ⟨880, 0⟩, ⟨1155, 4⟩, ⟨1162, 0⟩, ⟨1425, 4⟩, ⟨1470, 0⟩, ⟨1471, 4⟩, ⟨1472, 0⟩, ⟨1473, 4⟩, ⟨1475, 0⟩, ⟨1476, 4⟩, ⟨1478, 0⟩, ⟨1479, 4⟩, ⟨1480, 0⟩, ⟨1536, 7⟩, ⟨1542, 0⟩, ⟨1552, 4⟩, ⟨1563, 0⟩, ⟨1564, 3⟩, ⟨1565, 0⟩, ⟨1611, 4⟩, ⟨1632, 0⟩, ⟨1648, 4⟩, ⟨1649, 0⟩, ⟨1750, 4⟩, ⟨1757, 7⟩, ⟨1758, 0⟩, ⟨1759, 4⟩, ⟨1765, 0⟩, ⟨1767, 4⟩, ⟨1769, 0⟩, ⟨1770, 4⟩, ⟨1774, 0⟩, ⟨1807, 7⟩, ⟨1808, 0⟩, ⟨2274, 7⟩, ⟨2275, 0⟩, ⟨2307, 8⟩, ⟨2308, 0⟩, ⟨2362, 4⟩, ⟨2363, 8⟩, ⟨2364, 4⟩, ⟨2365, 0⟩, ⟨2366, 8⟩, ⟨2369, 4⟩, ⟨2377, 8⟩, ⟨2381, 4⟩, ⟨2382, 8⟩, ⟨2384, 0⟩, ⟨2434, 8⟩, ⟨2436, 0⟩, ⟨2494, 4⟩, ⟨2495, 0⟩, ⟨3406, 7⟩, ⟨3407, 0⟩, ⟨3633, 4⟩, ⟨3634, 0⟩, ⟨3635, 8⟩, ⟨3636, 4⟩, ⟨3643, 0⟩, ⟨3655, 4⟩, ⟨3663, 0⟩, ⟨3763, 8⟩, ⟨3764, 0⟩, ⟨4352, 9⟩, ⟨4448, 10⟩, ⟨4520, 11⟩, ⟨4608, 0⟩, ⟨6158, 3⟩, ⟨6159, 0⟩, ⟨6832, 4⟩, ⟨6863, 0⟩, ⟨7616, 4⟩, ⟨7680, 0⟩, ⟨8203, 3⟩, ⟨8204, 4⟩, ⟨8205, 5⟩, ⟨8206, 3⟩, ⟨8208, 0⟩, ⟨8232, 3⟩, ⟨8239, 0⟩, ⟨8288, 3⟩, ⟨8304, 0⟩, ⟨8400, 4⟩, ⟨8433, 0⟩, ⟨12330, 4⟩, ⟨12336, 0⟩, ⟨12441, 4⟩, ⟨12443, 0⟩, ⟨42607, 4⟩, ⟨42611, 0⟩, ⟨43360, 9⟩, ⟨43389, 0⟩, ⟨55216, 10⟩, ⟨55239, 0⟩, ⟨55243, 11⟩, ⟨55292, 0⟩, ⟨64286, 4⟩, ⟨64287, 0⟩, ⟨65024, 4⟩, ⟨65040, 0⟩, ⟨65056, 4⟩, ⟨65072, 0⟩, ⟨65279, 3⟩, ⟨65280, 0⟩, ⟨65438, 4⟩, ⟨65440, 0⟩, ⟨65520, 3⟩, ⟨65532, 0⟩, ⟨127462, 6⟩, ⟨127488, 0⟩, ⟨127995, 4⟩, ⟨128000, 0⟩, ⟨917504, 3⟩, ⟨917536, 4⟩, ⟨917632, 3⟩, ⟨917760, 4⟩, ⟨918000, 0⟩]
def gcb_Of.cells (r : gcb_Of.Row) : List Value := [.int .i64 r.f, .int .i64 r.k]
def gcb_Of.all : List Value := gcb_Of.rowsL.flatMap gcb_Of.cells
def gcb_Of.z : gcb_Of.Row := ⟨0, 0⟩
def gcb_Of.row (j : Nat) : gcb_Of.Row := gcb_Of.rowsL.getD j gcb_Of.z
/-- The kind of the last step at a number, or ahead of it. -/
def gcb_Of.kd : List gcb_Of.Row → Int → Int → Int
  | [], d, _ => d
  | r :: l, d, c => if r.f ≤ c then gcb_Of.kd l r.k c else d
/-- A number's kind, where the table says k. -/
def gcb_Of.kindV (k c : Int) : Int := if c < 44032 ∨ c > 55203 then k else if Int.tmod (c - 44032) 28 = 0 then 12 else 13
def gcb_Of.val (c : Int) : Int := if c < 0 then 0 else gcb_Of.kindV (gcb_Of.kd gcb_Of.rowsL 0 c) c
def gcb_Of.f (a0 : Int) : Option Int := if -9223372036854775808 ≤ a0 ∧ a0 ≤ 9223372036854775807 then some (gcb_Of.val a0) else none
section
open Go.Proofs.YtgbkfjdkejjmpaaH
set_option maxRecDepth 100000 in
theorem gcb_Of.rows_size : (gcb_Of.all).toArray.size = 256 := by decide
theorem gcb_Of.rows_one : ∀ q ∈ (Value.agg gcb_Of.all.toArray).cells.toList, q.oneCell' = true := by
  intro q hq
  have hq' : q ∈ gcb_Of.all := by simpa [Value.cells] using hq
  unfold gcb_Of.all at hq'
  obtain ⟨r, _, hr⟩ := List.mem_flatMap.1 hq'
  unfold gcb_Of.cells at hr
  simp only [List.mem_cons, List.not_mem_nil, or_false] at hr
  rcases hr with rfl | rfl <;> rfl
set_option maxHeartbeats 4000000 in
set_option maxRecDepth 100000 in
theorem gcb_Of.rows_calls (w : World) : Calls Try.prog 46 #[] w fun e w' => e = .returned (.agg gcb_Of.all.toArray) ∧ Below w.heap.size w w' := by
  go_enter Try.func46, Try.ntmps46
  refine wp_seq (wp_region_list ?_)
  refine alloc_event rfl 59 rfl 256 (by kernel_rfl) ?_
  intro g w1 cs hcs hg hb hbel hsz
  refine wpList_nil (wp_seq (wp_region_list ?_))
  refine builds_event 129 _ 0 129 (.pointer (some ⟨g, 0, none⟩)) (.agg gcb_Of.all.toArray) (by kernel_rfl) ?_
  rintro ⟨tm, df⟩ h1 h2 h3
  have hs := gcb_Of.rows_size
  have ho := gcb_Of.rows_one
  generalize hV : Value.agg gcb_Of.all.toArray = V at *
  refine block_store rfl rfl 59 (.tmp 0) (.tmp 129) rfl h1 V h2 hb (by rw [hcs, ← hV]; exact hs) (by rw [hcs]; kernel_rfl) ho ?_
  intro w2 hb2 hk2 hs2 hB2
  refine wpList_nil (wp_ret ?_)
  subst hV
  exact bodyPost_ret (v := .agg gcb_Of.all.toArray) (results_c1 rfl _ _ _ _ _ _ _ h1 hb2 Try.underlying59 rfl (by rw [hs]; kernel_rfl)) h3 ⟨rfl, hB2 _ _ hbel (by omega)⟩
theorem gcb_Of.cmp (f k c : Int) (W : World) : Calls Try.prog 48 #[.agg #[.int .i64 f, .int .i64 k], .int .i64 c] W fun e w' => e = .returned (.int .i64 (wrap64 (f - c))) ∧ Below W.heap.size W w' := by
  go_enter Try.func48, Try.ntmps48
  go_wp2
  go_ret
  exact ⟨by first | rfl | simp [wrap64], below_alloc (Below.refl _ _) _⟩
/-- What a search among n rows answers, of which S tells on which side each one is. -/
def gcb_Of.SPost (S : Nat → Int) (n : Nat) (w : World) (e : Ending) (w' : World) : Prop :=
  ∃ q : Nat, e = .returned (.tuple #[.int .i64 (q : Int), .bool (decide (q < n ∧ S q = 0))]) ∧ Below w.heap.size w w' ∧ q ≤ n ∧ ((∀ a b, a ≤ b → b < n → S b < 0 → S a < 0) → (∀ t, t < q → S t < 0) ∧ (∀ t, q ≤ t → t < n → 0 ≤ S t))
set_option maxHeartbeats 1000000 in
set_option maxRecDepth 100000 in
theorem gcb_Of.search (R : Nat → gcb_Of.Row) (S : Nat → Int) (g c n : Nat) (y : Int) (w : World) (hg : g < w.heap.size) (hc : ∀ j, j < n → ∀ (k : Nat) v, (gcb_Of.cells (R j))[k]? = some v → w.cell? ⟨g, j * 2 + k, none⟩ = some v) (hlen : n < 1000000)
    (hS : ∀ j, j < n → ∀ W : World, Calls Try.prog 48 #[.agg #[.int .i64 (R j).f, .int .i64 (R j).k], .int .i64 y] W fun e w' => e = .returned (.int .i64 (S j)) ∧ Below W.heap.size W w') :
    Calls Try.prog 47 #[.slice (some ⟨g, 0, none⟩) n c, .int .i64 y, .func (.func 48) #[] #[]] w (gcb_Of.SPost S n w) := by
  have eg : ∀ args w, (callFunc 48 args).run Try.prog w = .ok (.enter 48 args) w := enters_of Try.func48 (by kernel_rfl) rfl
  have HC := Aside0.mk hc
  have HSC := Aside0.mk hS
  have HG := Aside0.mk hg
  have HB0 := Aside0.mk (Below.refl w.heap.size w)
  clear hc hS hg
  go_enter Try.func47, Try.ntmps47
  go_wp2
  go_loopg [9, 10] n (fun kx s9 s10 wr => ∃ lo hi : Nat, s9 = .int .i64 lo ∧ s10 = .int .i64 hi ∧ lo ≤ hi ∧ hi ≤ n ∧ hi - lo ≤ kx ∧ Aside0 (Below w.heap.size w wr) ∧ Aside0 ((∀ a b, a ≤ b → b < n → S b < 0 → S a < 0) → (∀ t, t < lo → S t < 0) ∧ (∀ t, hi ≤ t → t < n → 0 ≤ S t)))
  case atStart => exact ⟨0, n, rfl, rfl, Nat.zero_le _, Nat.le_refl _, by omega, HB0, ⟨fun _ => ⟨fun t ht => absurd ht (Nat.not_lt_zero _), fun t h1 h2 => by omega⟩⟩⟩
  case round =>
    clear HB0
    obtain ⟨lo, hi, rfl, rfl, hlh, hin, hk, HB, I⟩ := hrel
    by_cases hlt : lo < hi
    · have cm : ∀ (k : Nat) v, (gcb_Of.cells (R ((lo + hi) / 2)))[k]? = some v → wr.cell? ⟨g, (lo + hi) / 2 * 2 + k, none⟩ = some v := fun k v h => (HB.out.cell (p := ⟨g, (lo + hi) / 2 * 2 + k, none⟩) HG.out).trans (HC.out _ (by omega) k v h)
      have hsm := HSC.out ((lo + hi) / 2) (by omega)
      rcases hv : R ((lo + hi) / 2) with ⟨rf, rk⟩
      rw [hv] at cm hsm
      have cm0 : wr.cell? ⟨g, (lo + hi) / 2 * 2, none⟩ = some (.int .i64 rf) := cm 0 _ rfl
      have cm1 : wr.cell? ⟨g, (lo + hi) / 2 * 2 + 1, none⟩ = some (.int .i64 rk) := cm 1 _ rfl
      clear hv cm
      have HSM := Aside0.mk hsm
      clear hsm
      generalize hsv : S ((lo + hi) / 2) = s at HSM
      have V := Aside0.mk hsv
      clear hsv
      by_cases h1 : s < 0
      · have HV := Aside0.mk h1
        have hb1 : decide (s < 0) = true := decide_eq_true h1
        clear h1
        go_wp2_with (go_at_fn 48; refine (HSM.out _).mono ?_; rintro e w2 ⟨rfl, hb2⟩; have n0_ := Aside0.mk (below_step HB.out hb2); clear HB hb2; have HB := n0_; clear n0_)
        go_roundg (hi - ((lo + hi) / 2 + 1))
        case measure => omega
        case rel =>
          refine ⟨(lo + hi) / 2 + 1, hi, by rw [show ((lo : Int) + (hi : Int)) / 2 + 1 = (((lo + hi) / 2 + 1 : Nat) : Int) by omega], rfl, by omega, hin, Nat.le_refl _, HB, ⟨fun hm => ⟨fun t ht => ?_, (I.out hm).2⟩⟩⟩
          exact hm t ((lo + hi) / 2) (by omega) (by omega) (by rw [V.out]; exact HV.out)
      · have HV := Aside0.mk h1
        have hb1 : decide (s < 0) = false := decide_eq_false h1
        clear h1
        go_wp2_with (go_at_fn 48; refine (HSM.out _).mono ?_; rintro e w2 ⟨rfl, hb2⟩; have n0_ := Aside0.mk (below_step HB.out hb2); clear HB hb2; have HB := n0_; clear n0_)
        go_roundg ((lo + hi) / 2 - lo)
        case measure => omega
        case rel =>
          refine ⟨lo, (lo + hi) / 2, rfl, by rw [show ((lo : Int) + (hi : Int)) / 2 = (((lo + hi) / 2 : Nat) : Int) by omega], by omega, by omega, Nat.le_refl _, HB, ⟨fun hm => ⟨(I.out hm).1, fun t ht htn => ?_⟩⟩⟩
          have h5 := HV.out
          rw [← V.out] at h5
          refine Int.not_lt.1 (fun h6 => absurd (hm ((lo + hi) / 2) t ht htn h6) (Int.not_lt.2 (Int.not_lt.1 (fun h7 => absurd h7 (by simpa using h5)))))
    · obtain rfl : hi = lo := by omega
      by_cases hcn : hi < n
      · have cm : ∀ (k : Nat) v, (gcb_Of.cells (R hi))[k]? = some v → wr.cell? ⟨g, hi * 2 + k, none⟩ = some v := fun k v h => (HB.out.cell (p := ⟨g, hi * 2 + k, none⟩) HG.out).trans (HC.out _ hcn k v h)
        have hsm := HSC.out hi hcn
        rcases hv : R hi with ⟨rf, rk⟩
        rw [hv] at cm hsm
        have cm0 : wr.cell? ⟨g, hi * 2, none⟩ = some (.int .i64 rf) := cm 0 _ rfl
        have cm1 : wr.cell? ⟨g, hi * 2 + 1, none⟩ = some (.int .i64 rk) := cm 1 _ rfl
        clear hv cm
        have HSM := Aside0.mk hsm
        clear hsm
        generalize hsv : S hi = s at HSM
        have V := Aside0.mk hsv
        clear hsv
        by_cases h1 : s = 0
        · subst h1
          go_wp2_with (go_at_fn 48; refine (HSM.out _).mono ?_; rintro e w2 ⟨rfl, hb2⟩; have n0_ := Aside0.mk (below_step HB.out hb2); clear HB hb2; have HB := n0_; clear n0_)
          go_ret2
          exact ⟨hi, by rw [decide_eq_true (show hi < n ∧ S hi = 0 from ⟨hcn, V.out⟩)]; rfl, HB.out, hin, I.out⟩
        · have hb1 : (s == 0) = false := beq_eq_false_iff_ne.2 h1
          have HV := Aside0.mk h1
          clear h1
          go_wp2_with (go_at_fn 48; refine (HSM.out _).mono ?_; rintro e w2 ⟨rfl, hb2⟩; have n0_ := Aside0.mk (below_step HB.out hb2); clear HB hb2; have HB := n0_; clear n0_)
          go_ret2
          exact ⟨hi, by rw [decide_eq_false (show ¬ (hi < n ∧ S hi = 0) from fun h => HV.out (V.out ▸ h.2))]; rfl, HB.out, hin, I.out⟩
      · go_wp2
        go_ret2
        exact ⟨hi, by rw [decide_eq_false (show ¬ (hi < n ∧ S hi = 0) from fun h => hcn h.1)]; rfl, HB.out, hin, I.out⟩
theorem gcb_Of.flat_at : ∀ (l : List gcb_Of.Row) (j k : Nat) (v : Value), j < l.length → (gcb_Of.cells (l.getD j gcb_Of.z))[k]? = some v → (l.flatMap gcb_Of.cells)[j * 2 + k]? = some v
  | [], j, k, v, h, _ => by simp at h
  | r :: l, 0, k, v, h, hk => by
    have hk4 : k < 2 := by
      have := (List.getElem?_eq_some_iff.1 hk).1
      simpa [gcb_Of.cells] using this
    rw [List.flatMap_cons, Nat.zero_mul, Nat.zero_add, List.getElem?_append_left (by simpa [gcb_Of.cells] using hk4)]
    exact hk
  | r :: l, j + 1, k, v, h, hk => by
    rw [List.flatMap_cons, List.getElem?_append_right (by simp [gcb_Of.cells]; omega)]
    have := gcb_Of.flat_at l j k v (by simpa using h) hk
    rw [show (j + 1) * 2 + k - (gcb_Of.cells r).length = j * 2 + k by simp [gcb_Of.cells]; omega]
    exact this
theorem gcb_Of.blk_cells (W : World) (g : Nat) (h : W.heap[g]? = some (.cells gcb_Of.all.toArray 59 (0, 0))) (j : Nat) (hj : j < 128) (k : Nat) (v : Value) (hk : (gcb_Of.cells (gcb_Of.row j))[k]? = some v) : W.cell? ⟨g, j * 2 + k, none⟩ = some v := by
  rw [blk_cell h]
  have := gcb_Of.flat_at gcb_Of.rowsL j k v hj hk
  simpa [gcb_Of.all] using this
theorem gcb_Of.row_facts : ∀ j, j < 128 → 0 ≤ (gcb_Of.row j).f ∧ (gcb_Of.row j).f ≤ 1000000 ∧ 0 ≤ (gcb_Of.row j).k ∧ (gcb_Of.row j).k ≤ 13 := by
  have h : ∀ j : Fin 128, 0 ≤ (gcb_Of.row j.val).f ∧ (gcb_Of.row j.val).f ≤ 1000000 ∧ 0 ≤ (gcb_Of.row j.val).k ∧ (gcb_Of.row j.val).k ≤ 13 := by decide +kernel
  exact fun j hj => h ⟨j, hj⟩
theorem gcb_Of.row_up : ∀ a b, a < b → b < 128 → (gcb_Of.row a).f < (gcb_Of.row b).f := by
  have h : ∀ b : Fin 128, ∀ a : Fin b.val, (gcb_Of.row a.val).f < (gcb_Of.row b.val).f := by decide +kernel
  exact fun a b h1 h2 => h ⟨b, h2⟩ ⟨a, h1⟩
/-- The row that tells a number's kind, by its place. -/
theorem gcb_Of.kd_at : ∀ (l : List gcb_Of.Row) (d c : Int) (m : Nat), m < l.length → (∀ t, t ≤ m → (l.getD t gcb_Of.z).f ≤ c) → (∀ t, m < t → t < l.length → c < (l.getD t gcb_Of.z).f) → gcb_Of.kd l d c = (l.getD m gcb_Of.z).k
  | [], d, c, m, hm, _, _ => by simp at hm
  | r :: l, d, c, 0, hm, h1, h2 => by
    have h3 : r.f ≤ c := h1 0 (Nat.le_refl _)
    unfold gcb_Of.kd
    rw [if_pos h3]
    cases l with
    | nil => rfl
    | cons s l =>
      have h4 : c < s.f := h2 1 (by omega) (by simp)
      unfold gcb_Of.kd
      rw [if_neg (by omega)]
      rfl
  | r :: l, d, c, m + 1, hm, h1, h2 => by
    have h3 : r.f ≤ c := h1 0 (Nat.zero_le _)
    unfold gcb_Of.kd
    rw [if_pos h3, gcb_Of.kd_at l r.k c m (by simpa using hm) (fun t ht => by simpa using h1 (t + 1) (by omega)) (fun t ht1 ht2 => by simpa using h2 (t + 1) (by omega) (by simpa using ht2))]
    simp
theorem gcb_Of.kind_calls (k c : Int) (w : World) (h1 : -9223372036854775808 ≤ c) (h2 : c ≤ 9223372036854775807) : Calls Try.prog 49 #[.int .i64 k, .int .i64 c] w fun e w' => e = .returned (.int .i64 (gcb_Of.kindV k c)) ∧ w = w' := by
  unfold gcb_Of.kindV
  by_cases g1 : c < 44032
  · rw [if_pos (.inl g1)]
    have b1 : decide (c < 44032) = true := decide_eq_true g1
    clear g1
    go_enter Try.func49, Try.ntmps49
    go_wp2
    go_ret
    exact ⟨rfl, rfl⟩
  · by_cases g2 : c > 55203
    · rw [if_pos (.inr g2)]
      have b1 : decide (c < 44032) = false := decide_eq_false g1
      have b2 : decide (55203 < c) = true := decide_eq_true g2
      clear g1 g2
      go_enter Try.func49, Try.ntmps49
      go_wp2
      go_ret
      exact ⟨rfl, rfl⟩
    · rw [if_neg (by omega)]
      have q1 : 44032 ≤ c := by omega
      have q2 : c ≤ 55203 := by omega
      have e1 : Int.tmod (c - 44032) 28 = (c - 44032) % 28 := Int.tmod_eq_emod_of_nonneg (by omega)
      have b1 : decide (c < 44032) = false := decide_eq_false g1
      have b2 : decide (55203 < c) = false := decide_eq_false g2
      rw [e1]
      clear e1 g1 g2
      by_cases g3 : (c - 44032) % 28 = 0
      · rw [if_pos g3]
        have b3 : ((c - 44032) % 28 == 0) = true := beq_iff_eq.2 g3
        clear g3
        go_enter Try.func49, Try.ntmps49
        go_wp2
        go_ret
        exact ⟨rfl, rfl⟩
      · rw [if_neg g3]
        have b3 : ((c - 44032) % 28 == 0) = false := beq_eq_false_iff_ne.2 g3
        clear g3
        go_enter Try.func49, Try.ntmps49
        go_wp2
        go_ret
        exact ⟨rfl, rfl⟩
set_option maxHeartbeats 4000000 in
set_option maxRecDepth 100000 in
theorem gcb_Of.calls (a0 : Int) (r : Int) (w : World) (h : gcb_Of.f a0 = some r) :
    Calls Try.prog 22 #[.int .i64 a0] w fun e w' => e = .returned (.int .i64 r) ∧ Below w.heap.size w w' := by
  have hrng : -9223372036854775808 ≤ a0 ∧ a0 ≤ 9223372036854775807 := by
    unfold gcb_Of.f at h
    split at h
    · assumption
    · cases h
  have hv : gcb_Of.val a0 = r := by
    unfold gcb_Of.f at h
    rw [if_pos hrng] at h
    exact Option.some.inj h
  clear h
  have HV := Aside0.mk hv
  clear hv
  have HSZ := Aside0.mk gcb_Of.rows_size
  have HONE := Aside0.mk gcb_Of.rows_one
  have HROWS := Aside0.mk gcb_Of.rows_calls
  have HBC := Aside0.mk gcb_Of.blk_cells
  have HSE := Aside0.mk (fun g W c (hg : g < W.heap.size) hc => gcb_Of.search gcb_Of.row (fun j => wrap64 ((gcb_Of.row j).f - a0)) g c 128 a0 W hg hc (by decide) (fun j _ W => gcb_Of.cmp _ _ _ _))
  have HFA := Aside0.mk gcb_Of.row_facts
  have HUP := Aside0.mk gcb_Of.row_up
  have HKD := Aside0.mk (gcb_Of.kd_at gcb_Of.rowsL 0 a0)
  generalize hall : gcb_Of.all = al at *
  go_enter Try.func22, Try.ntmps22
  go_wp2_with (first | (go_at_call 46; refine (HROWS.out _).mono ?_; rintro e w1 ⟨rfl, hb1⟩; have HB := Aside0.mk hb1; clear hb1) | ((with_reducible refine gate_dst (N := 3) rfl ?_); refine alloc_event rfl 59 rfl 256 (by kernel_rfl) ?_; intro g w2 cs hcs hg hb hbel hsz; have HG := Aside0.mk (show w.heap.size ≤ g by have := HB.out.size; omega); have n0_ := Aside0.mk (below_step HB.out hbel); clear HB; have HB := n0_; clear n0_; have HK1 := Aside0.mk hb; have HCS := Aside0.mk hcs; clear hcs hg hb hbel hsz) | ((with_reducible refine gate_store (t := 59) (p := 3) rfl ?_); refine block_store rfl rfl 59 (.tmp 3) (.tmp 6) rfl rfl (.agg al.toArray) rfl HK1.out (by rw [HCS.out]; exact HSZ.out) (by rw [HCS.out]; kernel_rfl) HONE.out ?_; intro w3 hb3 hk3 hs3 hB3; have n0_ := Aside0.mk (hB3 _ _ HB.out HG.out); clear HB; have HB := n0_; clear n0_; have HK2 := Aside0.mk hb3; clear HK1 hb3 hk3 hs3 hB3; have HGW := Aside0.mk (show g < w3.heap.size by obtain ⟨h_, _⟩ := Array.getElem?_eq_some_iff.1 HK2.out; exact h_)))
  refine (HSE.out g _ _ HGW.out (fun j hj k v h_ => HBC.out _ g HK2.out j hj k v h_)).mono ?_
  rintro e w4 ⟨q, rfl, hb4, hqn, hmq⟩
  have HC4 := Aside0.mk (fun j hj k v h_ => (hb4.cell (p := ⟨g, j * 2 + k, none⟩) HGW.out).trans (HBC.out _ g HK2.out j hj k v h_))
  have n0_ := Aside0.mk (below_step HB.out hb4)
  clear HB hb4 HK2
  have HB := n0_
  clear n0_
  have HMQ := Aside0.mk hmq
  clear hmq
  by_cases hneg : a0 < 0
  · obtain rfl : (0 : Int) = r := by rw [← HV.out]; unfold gcb_Of.val; rw [if_pos hneg]
    have hb0 : decide (a0 < 0) = true := decide_eq_true hneg
    clear HV hneg HMQ
    generalize decide (q < 128 ∧ (fun j => wrap64 ((gcb_Of.row j).f - a0)) q = 0) = bb
    cases bb
    · go_wp2
      go_ret
      exact ⟨rfl, HB.out⟩
    · go_wp2
      go_ret
      exact ⟨rfl, HB.out⟩
  · have hS : ∀ t, t < 128 → wrap64 ((gcb_Of.row t).f - a0) = (gcb_Of.row t).f - a0 := fun t ht => by
      have := HFA.out t ht
      unfold wrap64
      omega
    have hmono := HMQ.out (fun a b hab hb hsb => by
      have e1 := hS a (by omega)
      have e2 := hS b hb
      simp only [e1, e2] at hsb ⊢
      by_cases e : a = b
      · subst e; exact hsb
      · have := HUP.out a b (by omega) hb
        omega)
    obtain ⟨m, hm, hat, hm1, hm2⟩ : ∃ m : Nat, m < 128 ∧ (m = if q < 128 ∧ wrap64 ((gcb_Of.row q).f - a0) = 0 then q else q - 1) ∧ ((q < 128 ∧ wrap64 ((gcb_Of.row q).f - a0) = 0) ∨ 1 ≤ q) ∧ ((∀ t, t ≤ m → (gcb_Of.row t).f ≤ a0) ∧ (∀ t, m < t → t < 128 → a0 < (gcb_Of.row t).f)) := by
      obtain ⟨g1, g2⟩ := hmono
      by_cases hb : q < 128 ∧ wrap64 ((gcb_Of.row q).f - a0) = 0
      · refine ⟨q, hb.1, by rw [if_pos hb], .inl hb, fun t ht => ?_, fun t ht1 ht2 => ?_⟩
        · have e := hS q hb.1
          by_cases h : t = q
          · subst h; omega
          · have := HUP.out t q (by omega) hb.1
            omega
        · have e := hS q hb.1
          have := HUP.out q t ht1 ht2
          omega
      · have hq1 : 1 ≤ q := by
          refine Nat.one_le_iff_ne_zero.2 (fun h0 => hb ?_)
          subst h0
          have e0 : (gcb_Of.row 0).f = 0 := rfl
          have e := hS 0 (by omega)
          have := g2 0 (Nat.le_refl _) (by omega)
          simp only [e] at this
          exact ⟨by omega, by omega⟩
        refine ⟨q - 1, by omega, by rw [if_neg hb], .inr hq1, fun t ht => ?_, fun t ht1 ht2 => ?_⟩
        · have e := hS t (by omega)
          have := g1 t (by omega)
          simp only [e] at this
          omega
        · have e := hS t ht2
          have h3 := g2 t (by omega) ht2
          simp only [e] at h3
          by_cases h : t = q
          · subst h
            have : ¬ (wrap64 ((gcb_Of.row t).f - a0) = 0) := fun h => hb ⟨ht2, h⟩
            omega
          · have e4 := hS q (by omega)
            have h4 := g2 q (Nat.le_refl _) (by omega)
            simp only [e4] at h4
            have := HUP.out q t (by omega) ht2
            omega
    have hk : gcb_Of.kd gcb_Of.rowsL 0 a0 = (gcb_Of.row m).k := HKD.out m hm hm2.1 hm2.2
    have hcm : w4.cell? ⟨g, m * 2 + 1, none⟩ = some (.int .i64 (gcb_Of.row m).k) := HC4.out m hm 1 _ rfl
    have hvr : r = gcb_Of.kindV (gcb_Of.row m).k a0 := by
      rw [← HV.out, ← hk]; unfold gcb_Of.val; rw [if_neg hneg]
    clear HV HMQ HKD HFA HUP hmono hm2 hS HC4 hk
    have hb0 : decide (a0 < 0) = false := decide_eq_false hneg
    have ha0 : 0 ≤ a0 := Int.not_lt.1 hneg
    clear hneg
    generalize (gcb_Of.row m).k = kk at *
    have HVR := Aside0.mk hvr
    clear hvr
    by_cases hb : q < 128 ∧ wrap64 ((gcb_Of.row q).f - a0) = 0
    · rw [if_pos hb] at hat
      rw [show decide (q < 128 ∧ (fun j => wrap64 ((gcb_Of.row j).f - a0)) q = 0) = true from decide_eq_true hb]
      subst hat
      clear hb hm1
      go_wp2_with (go_at_call 49; refine (gcb_Of.kind_calls _ _ _ hrng.1 hrng.2).mono ?_; rintro e w5 ⟨rfl, rfl⟩)
      go_ret
      exact ⟨by rw [HVR.out]; rfl, HB.out⟩
    · rw [if_neg hb] at hat
      have hq1 : 1 ≤ q := by
        rcases hm1 with h | h
        · exact absurd h hb
        · exact h
      rw [show decide (q < 128 ∧ (fun j => wrap64 ((gcb_Of.row j).f - a0)) q = 0) = false from decide_eq_false hb]
      obtain rfl : q = m + 1 := by omega
      clear hb hm1 hat hq1
      have hmm : (((m + 1 : Nat) : Int) - 1) = (m : Int) := by omega
      go_wp2_with (go_at_call 49; refine (gcb_Of.kind_calls _ _ _ hrng.1 hrng.2).mono ?_; rintro e w5 ⟨rfl, rfl⟩)
      go_ret
      exact ⟨by rw [HVR.out]; rfl, HB.out⟩
end


/-! ### parquetryref05_in: function 50 -/
def parquetryref05_in.l0 : Nat → List Int → Int → Int → Option (Bool)
  | 0, _, _, _ => none
  | k + 1, x0, x1, x5 => if x5 < (x0.length : Int) then (if 0 ≤ x5 then (if (rd x0 x5) ≤ x1 then (if 0 ≤ (wrap64 (x5 + 1)) then (if (wrap64 (x5 + 1)) < (x0.length : Int) then (if x1 ≤ (rd x0 (wrap64 (x5 + 1))) then (some true) else (parquetryref05_in.l0 k x0 x1 (wrap64 (x5 + 2)))) else (none)) else (none)) else (parquetryref05_in.l0 k x0 x1 (wrap64 (x5 + 2)))) else (none)) else (some false)
def parquetryref05_in.f (k : Nat) (l0 : List Int) (a1 : Int) : Option (Bool) := parquetryref05_in.l0 k l0 a1 0
theorem parquetryref05_in.mono_l : ∀ k, (∀ y0 y1 y2, LeO (parquetryref05_in.l0 k y0 y1 y2) (parquetryref05_in.l0 (k + 1) y0 y1 y2))
  | 0 => fun _ _ _ r h => by simp [parquetryref05_in.l0] at h
  | k + 1 => by
    have ih0 := parquetryref05_in.mono_l k
    · intro y0 y1 y2
      unfold parquetryref05_in.l0
      repeat' first
      | (with_reducible exact ih0 _ _ _)
      | (with_reducible exact LeO.refl _)
      | (with_reducible exact LeO.none _)
      | (with_reducible refine LeO.ite ?_ ?_)
      | (with_reducible refine LeO.bind ?_ (fun _ => ?_))
      | exact ih0 _ _ _
      | exact LeO.none _
      | refine LeO.ite ?_ ?_
      | refine LeO.bind ?_ (fun _ => ?_)
theorem parquetryref05_in.mono : ∀ a0 a1 k, LeO (parquetryref05_in.f k a0 a1) (parquetryref05_in.f (k + 1) a0 a1) := by
  intro a0 a1 k
  have ih0 := parquetryref05_in.mono_l k
  unfold parquetryref05_in.f
  repeat' first
      | (with_reducible exact ih0 _ _ _)
      | (with_reducible exact LeO.refl _)
      | (with_reducible exact LeO.none _)
      | (with_reducible refine LeO.ite ?_ ?_)
      | (with_reducible refine LeO.bind ?_ (fun _ => ?_))
      | exact ih0 _ _ _
      | exact LeO.none _
      | refine LeO.ite ?_ ?_
      | refine LeO.bind ?_ (fun _ => ?_)
set_option maxHeartbeats 8000000 in
set_option maxRecDepth 100000 in
theorem parquetryref05_in.calls (k : Nat) (A0 : Option Addr) (c0 : Nat) (l0 : List Int) (a1 : Int) (r : Bool) (w : World) (hr0 : Kd.C (Kd.int .i64) w A0 l0.length l0) (hc0 : l0.length ≤ c0) (h : parquetryref05_in.f k l0 a1 = some r) :
    Calls Try.prog 50 #[.slice A0 l0.length c0, .int .i64 a1] w fun e w' => e = .returned (.bool r) ∧ Drawn0 w w' := by
  have HR0 := Aside0.mk hr0
  have HC0 := Aside0.mk hc0
  clear hr0 hc0
  have H : (parquetryref05_in.l0 k l0 a1 0) = some r := h
  clear h
  have H' := Aside0.mk H
  clear H
  go_enter Try.func50, Try.ntmps50
  go_wp2
  go_loopg [5] k (fun kq v5 w' => ∃ (x5_1 : Int), v5 = .int .i64 x5_1 ∧ Aside0 (parquetryref05_in.l0 kq l0 a1 x5_1 = some r) ∧ Aside0 (kq ≤ k) ∧ Drawn0 w w')
  case atStart => exact ⟨(0), (by first | rfl | (simp; done) | (simp [*]; done)), H', ⟨Nat.le_refl _⟩, by repeat (first | exact Drawn0.refl _ | apply Drawn0.step)⟩
  case round =>
    clear H'
    try clear p2
    obtain ⟨x5_1, rfl, HA, HK1, ⟨m1, rfl⟩⟩ := hrel
    cases gk with
    | zero => exact absurd HA.out (by simp [parquetryref05_in.l0])
    | succ k1 =>
      have H := HA.out
      clear HA
      simp only [parquetryref05_in.l0] at H
      by_cases c3 : x5_1 < (l0.length : Int)
      · rw [if_pos c3] at H
        have c3b0 : decide (x5_1 < (l0.length : Int)) = true := decide_eq_true c3
        clear c3
        by_cases c4 : 0 ≤ x5_1
        · rw [if_pos c4] at H
          have c4b0 : decide (0 ≤ x5_1) = true := decide_eq_true c4
          clear c4
          by_cases c5 : (rd l0 x5_1) ≤ a1
          · rw [if_pos c5] at H
            have c5b0 : decide ((rd l0 x5_1) ≤ a1) = true := decide_eq_true c5
            clear c5
            obtain ⟨ji6, hji6⟩ : ∃ j_ : Int, (wrap64 (x5_1 + 1)) = j_ := ⟨_, rfl⟩
            replace H : (if 0 ≤ (ji6) then (if (ji6) < (l0.length : Int) then (if a1 ≤ (rd l0 (ji6)) then (some true) else (parquetryref05_in.l0 k1 l0 a1 (wrap64 (x5_1 + 2)))) else (none)) else (none)) = some r := by first | (rw [hji6] at H; exact H) | (simp only [hji6] at H ⊢; exact H)
            have hji6w : (IntKind.i64.wrap (x5_1 + 1)) = ji6 := (i64_w _).trans hji6
            by_cases c7 : 0 ≤ (ji6)
            · rw [if_pos c7] at H
              have c7b0 : decide (0 ≤ (ji6)) = true := decide_eq_true c7
              clear c7
              by_cases c8 : (ji6) < (l0.length : Int)
              · rw [if_pos c8] at H
                have c8b0 : decide ((ji6) < (l0.length : Int)) = true := decide_eq_true c8
                clear c8
                by_cases c9 : a1 ≤ (rd l0 (ji6))
                · rw [if_pos c9] at H
                  have c9b0 : decide (a1 ≤ (rd l0 (ji6))) = true := decide_eq_true c9
                  clear c9
                  obtain rfl := Option.some.inj H
                  have p101 : 0 ≤ (x5_1 : Int) := of_decide_eq_true (by first | (with_reducible assumption) | assumption)
                  have q101 : x5_1 < (l0.length : Int) := of_decide_eq_true (by first | (with_reducible assumption) | assumption)
                  obtain ⟨ad101, e101, hx101_0⟩ := Kd.at_int HR0.out x5_1 p101 q101
                  cases e101
                  replace p101 := eq_true p101
                  replace q101 := eq_true q101
                  have p102 : 0 ≤ ((ji6) : Int) := of_decide_eq_true (by first | (with_reducible assumption) | assumption)
                  have q102 : (ji6) < (l0.length : Int) := of_decide_eq_true (by first | (with_reducible assumption) | assumption)
                  obtain ⟨ad102, e102, hx102_0⟩ := Kd.at_int HR0.out (ji6) p102 q102
                  obtain rfl : ad101 = ad102 := (by injection e102)
                  replace p102 := eq_true p102
                  replace q102 := eq_true q102
                  go_wp2
                  go_ret
                  exact ⟨by first | rfl | (simp; done) | (simp only [← hji6] <;> (first | rfl | simp)) | (simp [*]; done), by repeat (first | exact Drawn0.refl _ | apply Drawn0.step)⟩
                · rw [if_neg c9] at H
                  have c9b0 : decide (a1 ≤ (rd l0 (ji6))) = false := decide_eq_false c9
                  clear c9
                  have H' := Aside0.mk H
                  clear H
                  have p101 : 0 ≤ (x5_1 : Int) := of_decide_eq_true (by first | (with_reducible assumption) | assumption)
                  have q101 : x5_1 < (l0.length : Int) := of_decide_eq_true (by first | (with_reducible assumption) | assumption)
                  obtain ⟨ad101, e101, hx101_0⟩ := Kd.at_int HR0.out x5_1 p101 q101
                  cases e101
                  replace p101 := eq_true p101
                  replace q101 := eq_true q101
                  have p102 : 0 ≤ ((ji6) : Int) := of_decide_eq_true (by first | (with_reducible assumption) | assumption)
                  have q102 : (ji6) < (l0.length : Int) := of_decide_eq_true (by first | (with_reducible assumption) | assumption)
                  obtain ⟨ad102, e102, hx102_0⟩ := Kd.at_int HR0.out (ji6) p102 q102
                  obtain rfl : ad101 = ad102 := (by injection e102)
                  replace p102 := eq_true p102
                  replace q102 := eq_true q102
                  go_wp2
                  go_roundg k1
                  case measure => have := HK1.out; omega
                  case rel => exact ⟨(wrap64 (x5_1 + 2)), (by first | rfl | (simp; done) | (simp [*]; done)), H', ⟨by have := HK1.out; omega⟩, by repeat (first | exact Drawn0.refl _ | apply Drawn0.step)⟩
              · rw [if_neg c8] at H
                exact absurd H (by simp)
            · rw [if_neg c7] at H
              exact absurd H (by simp)
          · rw [if_neg c5] at H
            have c5b0 : decide ((rd l0 x5_1) ≤ a1) = false := decide_eq_false c5
            clear c5
            have H' := Aside0.mk H
            clear H
            have p101 : 0 ≤ (x5_1 : Int) := of_decide_eq_true (by first | (with_reducible assumption) | assumption)
            have q101 : x5_1 < (l0.length : Int) := of_decide_eq_true (by first | (with_reducible assumption) | assumption)
            obtain ⟨ad101, e101, hx101_0⟩ := Kd.at_int HR0.out x5_1 p101 q101
            cases e101
            replace p101 := eq_true p101
            replace q101 := eq_true q101
            go_wp2
            go_roundg k1
            case measure => have := HK1.out; omega
            case rel => exact ⟨(wrap64 (x5_1 + 2)), (by first | rfl | (simp; done) | (simp [*]; done)), H', ⟨by have := HK1.out; omega⟩, by repeat (first | exact Drawn0.refl _ | apply Drawn0.step)⟩
        · rw [if_neg c4] at H
          exact absurd H (by simp)
      · rw [if_neg c3] at H
        have c3b0 : decide (x5_1 < (l0.length : Int)) = false := decide_eq_false c3
        clear c3
        obtain rfl := Option.some.inj H
        go_wp2
        go_ret
        exact ⟨by first | rfl | (simp; done) | (simp [*]; done), by repeat (first | exact Drawn0.refl _ | apply Drawn0.step)⟩

/-! ### parquetryref05_Row: function 51: by hand -/
def parquetryref05_Row.L1 : List Int := [13, 13]
def parquetryref05_Row.L2 : List Int := [10, 10]
def parquetryref05_Row.L5 : List Int := [8205, 8205]
def parquetryref05_Row.L3 : List Int := [0, 9, 11, 12, 14, 31, 127, 159, 173, 173, 1564, 1564, 6158, 6158, 8203, 8203, 8206, 8207, 8232, 8238, 8288, 8303, 65279, 65279, 65520, 65531, 917504, 917535, 917632, 917759]
def parquetryref05_Row.L4 : List Int := [768, 879, 1155, 1161, 1425, 1469, 1471, 1471, 1473, 1474, 1476, 1477, 1479, 1479, 1552, 1562, 1611, 1631, 1648, 1648, 1750, 1756, 1759, 1764, 1767, 1768, 1770, 1773, 2362, 2362, 2364, 2364, 2369, 2376, 2381, 2381, 2494, 2494, 3633, 3633, 3636, 3642, 3655, 3662, 6832, 6862, 7616, 7679, 8204, 8204, 8400, 8432, 12330, 12335, 12441, 12442, 42607, 42610, 64286, 64286, 65024, 65039, 65056, 65071, 65438, 65439, 127995, 127999, 917536, 917631, 917760, 917999]
def parquetryref05_Row.L6 : List Int := [127462, 127487]
def parquetryref05_Row.L7 : List Int := [1536, 1541, 1757, 1757, 1807, 1807, 2274, 2274, 3406, 3406]
def parquetryref05_Row.L8 : List Int := [2307, 2307, 2363, 2363, 2366, 2368, 2377, 2380, 2382, 2383, 2434, 2435, 3635, 3635, 3763, 3763]
def parquetryref05_Row.L9 : List Int := [4352, 4447, 43360, 43388]
def parquetryref05_Row.L10 : List Int := [4448, 4519, 55216, 55238]
def parquetryref05_Row.L11 : List Int := [4520, 4607, 55243, 55291]
def parquetryref05_Row.f (a0 : Int) : Option (List Int) := if a0 = 1 then some parquetryref05_Row.L1 else if a0 = 2 then some parquetryref05_Row.L2 else if a0 = 5 then some parquetryref05_Row.L5 else if a0 = 3 then some parquetryref05_Row.L3 else if a0 = 4 then some parquetryref05_Row.L4 else if a0 = 6 then some parquetryref05_Row.L6 else if a0 = 7 then some parquetryref05_Row.L7 else if a0 = 8 then some parquetryref05_Row.L8 else if a0 = 9 then some parquetryref05_Row.L9 else if a0 = 10 then some parquetryref05_Row.L10 else if a0 = 11 then some parquetryref05_Row.L11 else some []
section
open Go.Proofs.YtgbkfjdkejjmpaaH
set_option maxHeartbeats 4000000 in
set_option maxRecDepth 100000 in
theorem parquetryref05_Row.calls (a0 : Int) (r : List Int) (w : World) (h : parquetryref05_Row.f a0 = some r) :
    Calls Try.prog 51 #[.int .i64 a0] w fun e w' => ∃ v0_ : Value, e = .returned (v0_) ∧ Kd.R (Kd.int .i64) 3 w' w.heap.size (fun _ => True) v0_ r ∧ Below w.heap.size w w' := by
  have HB := Aside0.mk (Below.refl w.heap.size w)
  unfold parquetryref05_Row.f at h
  by_cases c1 : a0 = 1
  · subst c1
    obtain rfl : parquetryref05_Row.L1 = r := by simpa using h
    clear h
    go_enter Try.func51, Try.ntmps51
    go_wp2_with (first | ((with_reducible refine gate_dst (N := 6) rfl ?_); refine row_event w.heap.size 3 rfl (N := 6) rfl 25 2 .i64 parquetryref05_Row.L1 ?ho (by kernel_rfl) Try.underlying25 (by kernel_rfl) (by kernel_rfl) (by decide) (by decide) HB.out (Nat.le_refl _) ?_; (case ho => kernel_rfl); intro v1 w1 hO1 hB1 hg1 hb1; have HO := Aside0.mk hO1; have HB1 := Aside0.mk hB1; clear hO1 hB1 hg1 hb1))
    go_ret
    exact ⟨_, rfl, HO.out, HB1.out⟩
  have b1 : (a0 == 1) = false := beq_eq_false_iff_ne.2 c1
  rw [if_neg c1] at h
  clear c1
  by_cases c2 : a0 = 2
  · subst c2
    obtain rfl : parquetryref05_Row.L2 = r := by simpa using h
    clear h
    go_enter Try.func51, Try.ntmps51
    go_wp2_with (first | ((with_reducible refine gate_dst (N := 9) rfl ?_); refine row_event w.heap.size 3 rfl (N := 9) rfl 25 2 .i64 parquetryref05_Row.L2 ?ho (by kernel_rfl) Try.underlying25 (by kernel_rfl) (by kernel_rfl) (by decide) (by decide) HB.out (Nat.le_refl _) ?_; (case ho => kernel_rfl); intro v1 w1 hO1 hB1 hg1 hb1; have HO := Aside0.mk hO1; have HB1 := Aside0.mk hB1; clear hO1 hB1 hg1 hb1))
    go_ret
    exact ⟨_, rfl, HO.out, HB1.out⟩
  have b2 : (a0 == 2) = false := beq_eq_false_iff_ne.2 c2
  rw [if_neg c2] at h
  clear c2
  by_cases c5 : a0 = 5
  · subst c5
    obtain rfl : parquetryref05_Row.L5 = r := by simpa using h
    clear h
    go_enter Try.func51, Try.ntmps51
    go_wp2_with (first | ((with_reducible refine gate_dst (N := 12) rfl ?_); refine row_event w.heap.size 3 rfl (N := 12) rfl 25 2 .i64 parquetryref05_Row.L5 ?ho (by kernel_rfl) Try.underlying25 (by kernel_rfl) (by kernel_rfl) (by decide) (by decide) HB.out (Nat.le_refl _) ?_; (case ho => kernel_rfl); intro v1 w1 hO1 hB1 hg1 hb1; have HO := Aside0.mk hO1; have HB1 := Aside0.mk hB1; clear hO1 hB1 hg1 hb1))
    go_ret
    exact ⟨_, rfl, HO.out, HB1.out⟩
  have b5 : (a0 == 5) = false := beq_eq_false_iff_ne.2 c5
  rw [if_neg c5] at h
  clear c5
  by_cases c3 : a0 = 3
  · subst c3
    obtain rfl : parquetryref05_Row.L3 = r := by simpa using h
    clear h
    go_enter Try.func51, Try.ntmps51
    go_wp2_with (first | ((with_reducible refine gate_dst (N := 15) rfl ?_); refine row_event w.heap.size 3 rfl (N := 15) rfl 25 30 .i64 parquetryref05_Row.L3 ?ho (by kernel_rfl) Try.underlying25 (by kernel_rfl) (by kernel_rfl) (by decide) (by decide) HB.out (Nat.le_refl _) ?_; (case ho => kernel_rfl); intro v1 w1 hO1 hB1 hg1 hb1; have HO := Aside0.mk hO1; have HB1 := Aside0.mk hB1; clear hO1 hB1 hg1 hb1))
    go_ret
    exact ⟨_, rfl, HO.out, HB1.out⟩
  have b3 : (a0 == 3) = false := beq_eq_false_iff_ne.2 c3
  rw [if_neg c3] at h
  clear c3
  by_cases c4 : a0 = 4
  · subst c4
    obtain rfl : parquetryref05_Row.L4 = r := by simpa using h
    clear h
    go_enter Try.func51, Try.ntmps51
    go_wp2_with (first | ((with_reducible refine gate_dst (N := 18) rfl ?_); refine row_event w.heap.size 3 rfl (N := 18) rfl 25 72 .i64 parquetryref05_Row.L4 ?ho (by kernel_rfl) Try.underlying25 (by kernel_rfl) (by kernel_rfl) (by decide) (by decide) HB.out (Nat.le_refl _) ?_; (case ho => kernel_rfl); intro v1 w1 hO1 hB1 hg1 hb1; have HO := Aside0.mk hO1; have HB1 := Aside0.mk hB1; clear hO1 hB1 hg1 hb1))
    go_ret
    exact ⟨_, rfl, HO.out, HB1.out⟩
  have b4 : (a0 == 4) = false := beq_eq_false_iff_ne.2 c4
  rw [if_neg c4] at h
  clear c4
  by_cases c6 : a0 = 6
  · subst c6
    obtain rfl : parquetryref05_Row.L6 = r := by simpa using h
    clear h
    go_enter Try.func51, Try.ntmps51
    go_wp2_with (first | ((with_reducible refine gate_dst (N := 21) rfl ?_); refine row_event w.heap.size 3 rfl (N := 21) rfl 25 2 .i64 parquetryref05_Row.L6 ?ho (by kernel_rfl) Try.underlying25 (by kernel_rfl) (by kernel_rfl) (by decide) (by decide) HB.out (Nat.le_refl _) ?_; (case ho => kernel_rfl); intro v1 w1 hO1 hB1 hg1 hb1; have HO := Aside0.mk hO1; have HB1 := Aside0.mk hB1; clear hO1 hB1 hg1 hb1))
    go_ret
    exact ⟨_, rfl, HO.out, HB1.out⟩
  have b6 : (a0 == 6) = false := beq_eq_false_iff_ne.2 c6
  rw [if_neg c6] at h
  clear c6
  by_cases c7 : a0 = 7
  · subst c7
    obtain rfl : parquetryref05_Row.L7 = r := by simpa using h
    clear h
    go_enter Try.func51, Try.ntmps51
    go_wp2_with (first | ((with_reducible refine gate_dst (N := 24) rfl ?_); refine row_event w.heap.size 3 rfl (N := 24) rfl 25 10 .i64 parquetryref05_Row.L7 ?ho (by kernel_rfl) Try.underlying25 (by kernel_rfl) (by kernel_rfl) (by decide) (by decide) HB.out (Nat.le_refl _) ?_; (case ho => kernel_rfl); intro v1 w1 hO1 hB1 hg1 hb1; have HO := Aside0.mk hO1; have HB1 := Aside0.mk hB1; clear hO1 hB1 hg1 hb1))
    go_ret
    exact ⟨_, rfl, HO.out, HB1.out⟩
  have b7 : (a0 == 7) = false := beq_eq_false_iff_ne.2 c7
  rw [if_neg c7] at h
  clear c7
  by_cases c8 : a0 = 8
  · subst c8
    obtain rfl : parquetryref05_Row.L8 = r := by simpa using h
    clear h
    go_enter Try.func51, Try.ntmps51
    go_wp2_with (first | ((with_reducible refine gate_dst (N := 27) rfl ?_); refine row_event w.heap.size 3 rfl (N := 27) rfl 25 16 .i64 parquetryref05_Row.L8 ?ho (by kernel_rfl) Try.underlying25 (by kernel_rfl) (by kernel_rfl) (by decide) (by decide) HB.out (Nat.le_refl _) ?_; (case ho => kernel_rfl); intro v1 w1 hO1 hB1 hg1 hb1; have HO := Aside0.mk hO1; have HB1 := Aside0.mk hB1; clear hO1 hB1 hg1 hb1))
    go_ret
    exact ⟨_, rfl, HO.out, HB1.out⟩
  have b8 : (a0 == 8) = false := beq_eq_false_iff_ne.2 c8
  rw [if_neg c8] at h
  clear c8
  by_cases c9 : a0 = 9
  · subst c9
    obtain rfl : parquetryref05_Row.L9 = r := by simpa using h
    clear h
    go_enter Try.func51, Try.ntmps51
    go_wp2_with (first | ((with_reducible refine gate_dst (N := 30) rfl ?_); refine row_event w.heap.size 3 rfl (N := 30) rfl 25 4 .i64 parquetryref05_Row.L9 ?ho (by kernel_rfl) Try.underlying25 (by kernel_rfl) (by kernel_rfl) (by decide) (by decide) HB.out (Nat.le_refl _) ?_; (case ho => kernel_rfl); intro v1 w1 hO1 hB1 hg1 hb1; have HO := Aside0.mk hO1; have HB1 := Aside0.mk hB1; clear hO1 hB1 hg1 hb1))
    go_ret
    exact ⟨_, rfl, HO.out, HB1.out⟩
  have b9 : (a0 == 9) = false := beq_eq_false_iff_ne.2 c9
  rw [if_neg c9] at h
  clear c9
  by_cases c10 : a0 = 10
  · subst c10
    obtain rfl : parquetryref05_Row.L10 = r := by simpa using h
    clear h
    go_enter Try.func51, Try.ntmps51
    go_wp2_with (first | ((with_reducible refine gate_dst (N := 33) rfl ?_); refine row_event w.heap.size 3 rfl (N := 33) rfl 25 4 .i64 parquetryref05_Row.L10 ?ho (by kernel_rfl) Try.underlying25 (by kernel_rfl) (by kernel_rfl) (by decide) (by decide) HB.out (Nat.le_refl _) ?_; (case ho => kernel_rfl); intro v1 w1 hO1 hB1 hg1 hb1; have HO := Aside0.mk hO1; have HB1 := Aside0.mk hB1; clear hO1 hB1 hg1 hb1))
    go_ret
    exact ⟨_, rfl, HO.out, HB1.out⟩
  have b10 : (a0 == 10) = false := beq_eq_false_iff_ne.2 c10
  rw [if_neg c10] at h
  clear c10
  by_cases c11 : a0 = 11
  · subst c11
    obtain rfl : parquetryref05_Row.L11 = r := by simpa using h
    clear h
    go_enter Try.func51, Try.ntmps51
    go_wp2_with (first | ((with_reducible refine gate_dst (N := 36) rfl ?_); refine row_event w.heap.size 3 rfl (N := 36) rfl 25 4 .i64 parquetryref05_Row.L11 ?ho (by kernel_rfl) Try.underlying25 (by kernel_rfl) (by kernel_rfl) (by decide) (by decide) HB.out (Nat.le_refl _) ?_; (case ho => kernel_rfl); intro v1 w1 hO1 hB1 hg1 hb1; have HO := Aside0.mk hO1; have HB1 := Aside0.mk hB1; clear hO1 hB1 hg1 hb1))
    go_ret
    exact ⟨_, rfl, HO.out, HB1.out⟩
  have b11 : (a0 == 11) = false := beq_eq_false_iff_ne.2 c11
  rw [if_neg c11] at h
  clear c11
  obtain rfl : [] = r := by simpa using h
  clear h
  go_enter Try.func51, Try.ntmps51
  go_wp2
  go_ret
  exact ⟨_, rfl, Kd.R_nil _ _ _ _ _, HB.out⟩
end


/-! ### parquetryref05_Of: function 23 -/
mutual
def parquetryref05_Of.l0 : Nat → Int → Int → Option (Int)
  | 0, _, _ => none
  | k + 1, x0, x3 => if x3 ≤ 55203 then (if x0 = x3 then (some 12) else (if x0 > x3 then (if x0 < (wrap64 (x3 + 28)) then (some 13) else (parquetryref05_Of.l0 k x0 (wrap64 (x3 + 28)))) else (parquetryref05_Of.l0 k x0 (wrap64 (x3 + 28))))) else (parquetryref05_Of.l1 k x0 1)
def parquetryref05_Of.l1 : Nat → Int → Int → Option (Int)
  | 0, _, _ => none
  | k + 1, x0, x4 => if x4 < 12 then ((parquetryref05_Row.f x4).bind fun t103 => ((parquetryref05_in.f k t103 x0).bind fun t106 => (if t106 = true then (some x4) else (parquetryref05_Of.l1 k x0 (wrap64 (x4 + 1)))))) else (some 0)
end
def parquetryref05_Of.f (k : Nat) (a0 : Int) : Option (Int) := parquetryref05_Of.l0 k a0 44032
theorem parquetryref05_Of.mono_l : ∀ k, (∀ y0 y1, LeO (parquetryref05_Of.l0 k y0 y1) (parquetryref05_Of.l0 (k + 1) y0 y1)) ∧ (∀ y0 y1, LeO (parquetryref05_Of.l1 k y0 y1) (parquetryref05_Of.l1 (k + 1) y0 y1))
  | 0 => ⟨fun _ _ r h => by simp [parquetryref05_Of.l0] at h, fun _ _ r h => by simp [parquetryref05_Of.l1] at h⟩
  | k + 1 => by
    obtain ⟨ih0, ih1⟩ := parquetryref05_Of.mono_l k
    refine ⟨?_, ?_⟩
    · intro y0 y1
      unfold parquetryref05_Of.l0
      repeat' first
      | (with_reducible exact ih0 _ _)
      | (with_reducible exact ih1 _ _)
      | (with_reducible exact parquetryref05_in.mono _ _ _)
      | (with_reducible exact LeO.refl _)
      | (with_reducible exact LeO.none _)
      | (with_reducible refine LeO.ite ?_ ?_)
      | (with_reducible refine LeO.bind ?_ (fun _ => ?_))
      | exact ih0 _ _
      | exact ih1 _ _
      | exact parquetryref05_in.mono _ _ _
      | exact LeO.none _
      | refine LeO.ite ?_ ?_
      | refine LeO.bind ?_ (fun _ => ?_)
    · intro y0 y1
      unfold parquetryref05_Of.l1
      repeat' first
      | (with_reducible exact ih0 _ _)
      | (with_reducible exact ih1 _ _)
      | (with_reducible exact parquetryref05_in.mono _ _ _)
      | (with_reducible exact LeO.refl _)
      | (with_reducible exact LeO.none _)
      | (with_reducible refine LeO.ite ?_ ?_)
      | (with_reducible refine LeO.bind ?_ (fun _ => ?_))
      | exact ih0 _ _
      | exact ih1 _ _
      | exact parquetryref05_in.mono _ _ _
      | exact LeO.none _
      | refine LeO.ite ?_ ?_
      | refine LeO.bind ?_ (fun _ => ?_)
theorem parquetryref05_Of.mono : ∀ a0 k, LeO (parquetryref05_Of.f k a0) (parquetryref05_Of.f (k + 1) a0) := by
  intro a0 k
  obtain ⟨ih0, ih1⟩ := parquetryref05_Of.mono_l k
  unfold parquetryref05_Of.f
  repeat' first
      | (with_reducible exact ih0 _ _)
      | (with_reducible exact ih1 _ _)
      | (with_reducible exact parquetryref05_in.mono _ _ _)
      | (with_reducible exact LeO.refl _)
      | (with_reducible exact LeO.none _)
      | (with_reducible refine LeO.ite ?_ ?_)
      | (with_reducible refine LeO.bind ?_ (fun _ => ?_))
      | exact ih0 _ _
      | exact ih1 _ _
      | exact parquetryref05_in.mono _ _ _
      | exact LeO.none _
      | refine LeO.ite ?_ ?_
      | refine LeO.bind ?_ (fun _ => ?_)
set_option maxHeartbeats 8000000 in
set_option maxRecDepth 100000 in
theorem parquetryref05_Of.calls (k : Nat) (a0 : Int) (r : Int) (w : World) (h : parquetryref05_Of.f k a0 = some r) :
    Calls Try.prog 23 #[.int .i64 a0] w fun e w' => e = .returned (.int .i64 r) ∧ Below w.heap.size w w' := by
  have HB := Aside0.mk (Below.refl w.heap.size w)
  have H : (parquetryref05_Of.l0 k a0 44032) = some r := h
  clear h
  have H' := Aside0.mk H
  clear H
  go_enter Try.func23, Try.ntmps23
  go_wp2
  go_loopg [3] k (fun kq v3 w' => ∃ (x3_1 : Int), v3 = .int .i64 x3_1 ∧ Aside0 (parquetryref05_Of.l0 kq a0 x3_1 = some r) ∧ Aside0 (kq ≤ k) ∧ Aside0 (Below w.heap.size w w'))
  case atStart => exact ⟨(44032), (by first | rfl | (simp; done) | (simp [*]; done)), H', ⟨Nat.le_refl _⟩, ⟨by repeat (first | (with_reducible first | exact HB.out | apply below_alloc | apply pw_below_drewN | apply below_drew1) | exact HB.out)⟩⟩
  case round =>
    clear H'
    obtain ⟨x3_1, rfl, HA, HK1, HB⟩ := hrel
    cases gk with
    | zero => exact absurd HA.out (by simp [parquetryref05_Of.l0])
    | succ k1 =>
      have H := HA.out
      clear HA
      simp only [parquetryref05_Of.l0] at H
      by_cases c2 : x3_1 ≤ 55203
      · rw [if_pos c2] at H
        have c2b0 : decide (x3_1 ≤ 55203) = true := decide_eq_true c2
        clear c2
        by_cases c3 : a0 = x3_1
        · rw [if_pos c3] at H
          have c3b0 : (a0 == x3_1) = true := beq_iff_eq.mpr c3
          have c3b1 : (a0 != x3_1) = false := bne_eq_false_iff_eq.mpr c3
          clear c3
          obtain rfl := Option.some.inj H
          go_wp2
          go_ret
          exact ⟨by first | rfl | (simp [errW_none, errW_some] <;> rfl) | (simp [*, errW_none, errW_some] <;> rfl), by repeat (first | (with_reducible first | exact HB.out | apply below_alloc | apply pw_below_drewN | apply below_drew1) | exact HB.out)⟩
        · rw [if_neg c3] at H
          have c3b0 : (a0 == x3_1) = false := beq_eq_false_iff_ne.mpr c3
          have c3b1 : (a0 != x3_1) = true := bne_iff_ne.mpr c3
          by_cases c4 : a0 > x3_1
          · rw [if_pos c4] at H
            have c4b0 : decide (x3_1 < a0) = true := decide_eq_true c4
            clear c4
            by_cases c5 : a0 < (wrap64 (x3_1 + 28))
            · rw [if_pos c5] at H
              have c5b0 : decide (a0 < (wrap64 (x3_1 + 28))) = true := decide_eq_true c5
              clear c5
              obtain rfl := Option.some.inj H
              go_wp2
              go_ret
              exact ⟨by first | rfl | (simp [errW_none, errW_some] <;> rfl) | (simp [*, errW_none, errW_some] <;> rfl), by repeat (first | (with_reducible first | exact HB.out | apply below_alloc | apply pw_below_drewN | apply below_drew1) | exact HB.out)⟩
            · rw [if_neg c5] at H
              have c5b0 : decide (a0 < (wrap64 (x3_1 + 28))) = false := decide_eq_false c5
              clear c5
              have H' := Aside0.mk H
              clear H
              go_wp2
              go_roundg k1
              case measure => have := HK1.out; omega
              case rel => exact ⟨(wrap64 (x3_1 + 28)), (by first | rfl | (simp; done) | (simp [*]; done)), H', ⟨by have := HK1.out; omega⟩, ⟨by repeat (first | (with_reducible first | exact HB.out | apply below_alloc | apply pw_below_drewN | apply below_drew1) | exact HB.out)⟩⟩
          · rw [if_neg c4] at H
            have c4b0 : decide (x3_1 < a0) = false := decide_eq_false c4
            clear c4
            have H' := Aside0.mk H
            clear H
            go_wp2
            go_roundg k1
            case measure => have := HK1.out; omega
            case rel => exact ⟨(wrap64 (x3_1 + 28)), (by first | rfl | (simp; done) | (simp [*]; done)), H', ⟨by have := HK1.out; omega⟩, ⟨by repeat (first | (with_reducible first | exact HB.out | apply below_alloc | apply pw_below_drewN | apply below_drew1) | exact HB.out)⟩⟩
      · rw [if_neg c2] at H
        have c2b0 : decide (x3_1 ≤ 55203) = false := decide_eq_false c2
        clear c2
        have H' := Aside0.mk H
        clear H
        go_wp2
        go_loopg [4] k1 (fun kq v4 w' => ∃ (x4_2 : Int), v4 = .int .i64 x4_2 ∧ Aside0 (parquetryref05_Of.l1 kq a0 x4_2 = some r) ∧ Aside0 (kq ≤ k1) ∧ Aside0 (Below w.heap.size w w'))
        case atStart => exact ⟨(1), (by first | rfl | (simp; done) | (simp [*]; done)), H', ⟨Nat.le_refl _⟩, ⟨by repeat (first | (with_reducible first | exact HB.out | apply below_alloc | apply pw_below_drewN | apply below_drew1) | exact HB.out)⟩⟩
        case round =>
          clear H'
          try clear c2
          try clear c2b0
          try clear p2
          try clear c3
          try clear c3b0
          try clear c3b1
          try clear c4
          try clear c4b0
          try clear c5
          try clear c5b0
          obtain ⟨x4_2, rfl, HA, HK2, HB⟩ := hrel
          cases gk with
          | zero => exact absurd HA.out (by simp [parquetryref05_Of.l1])
          | succ k2 =>
            have H := HA.out
            clear HA
            simp only [parquetryref05_Of.l1] at H
            by_cases c6 : x4_2 < 12
            · rw [if_pos c6] at H
              have c6b0 : decide (x4_2 < 12) = true := decide_eq_true c6
              clear c6
              replace H := Option.bind_eq_some_iff.mp H
              obtain ⟨t103, A70, H⟩ := H
              replace H : ((parquetryref05_in.f k2 t103 a0).bind fun t106 => (if t106 = true then (some x4_2) else (parquetryref05_Of.l1 k2 a0 (wrap64 (x4_2 + 1))))) = some r := H
              have A7 := Aside0.mk A70
              clear A70
              replace H := Option.bind_eq_some_iff.mp H
              obtain ⟨t106, A80, H⟩ := H
              replace H : (if t106 = true then (some x4_2) else (parquetryref05_Of.l1 k2 a0 (wrap64 (x4_2 + 1)))) = some r := H
              have A8 := Aside0.mk A80
              clear A80
              by_cases c9 : t106 = true
              · subst c9
                have H1 : (some x4_2) = some r := by rw [if_pos rfl] at H; exact H
                clear H
                have H := H1
                clear H1
                obtain rfl := Option.some.inj H
                go_wp2_with (first | ((with_reducible refine gate_callee (f := 51) rfl ?_); refine goesL_ (some 26) rfl rfl Try.func51 (by kernel_rfl) rfl #[.int .i64 x4_2] rfl (by (try simp only [List.map_toArray, List.map_cons, List.map_nil]); first | done | rfl | (simp only [List.length_drop, List.length_take]; rfl)) ?_; (with_reducible refine (parquetryref05_Row.calls x4_2 t103 _ A7.out).mono ?_); rintro e w10 ⟨v104, rfl, ho0, hb⟩; refine ⟨_, rfl, ?_⟩; have n0_ := Aside0.mk (Kd.R_lower ho0 (below_size (by repeat (first | (with_reducible first | exact HB.out | apply below_alloc | apply pw_below_drewN | apply below_drew1) | exact HB.out)))); have n1_ := Aside0.mk (below_step (by repeat (first | (with_reducible first | exact HB.out | apply below_alloc | apply pw_below_drewN | apply below_drew1) | exact HB.out)) hb); clear HB; have HO105 := n0_; have HB := n1_; clear n0_ n1_; (try clear hb); (try clear hb2); (try clear hk); (try clear hi); (try clear ho0); obtain ⟨Ao11, co11, eo11⟩ := Kd.R_slice HO105.out; subst eo11) | ((with_reducible refine gate_callee (f := 50) rfl ?_); refine goesL_ (some 28) rfl rfl Try.func50 (by kernel_rfl) rfl #[.slice Ao11 t103.length co11, .int .i64 a0] rfl (by (try simp only [List.map_toArray, List.map_cons, List.map_nil]); first | done | rfl | (simp only [List.length_drop, List.length_take]; rfl)) ?_; (with_reducible refine (parquetryref05_in.calls k2 _ _ t103 a0 true _ ?side1 ?side2 A8.out).mono ?_); (case side1 => repeat (first | exact (Kd.R_reads' HO105.out).2.2 | (with_reducible refine Kd.C_alloc ?_ _) | (with_reducible refine Kd.C_drewN ?_ _) | (with_reducible refine Kd.C_drew ?_))); (case side2 => exact (Kd.R_reads' HO105.out).2.1); rintro e w' ⟨rfl, ⟨nd, rfl⟩⟩; refine ⟨_, rfl, ?_⟩))
                go_ret
                exact ⟨by first | rfl | (simp [errW_none, errW_some] <;> rfl) | (simp [*, errW_none, errW_some] <;> rfl), by repeat (first | (with_reducible first | exact HB.out | apply below_alloc | apply pw_below_drewN | apply below_drew1) | exact HB.out)⟩
              · replace c9 := Bool.eq_false_iff.mpr c9
                subst c9
                have H1 : (parquetryref05_Of.l1 k2 a0 (wrap64 (x4_2 + 1))) = some r := by rw [if_neg (show ¬ (false = true) by decide)] at H; exact H
                clear H
                have H := H1
                clear H1
                have H' := Aside0.mk H
                clear H
                go_wp2_with (first | ((with_reducible refine gate_callee (f := 51) rfl ?_); refine goesL_ (some 26) rfl rfl Try.func51 (by kernel_rfl) rfl #[.int .i64 x4_2] rfl (by (try simp only [List.map_toArray, List.map_cons, List.map_nil]); first | done | rfl | (simp only [List.length_drop, List.length_take]; rfl)) ?_; (with_reducible refine (parquetryref05_Row.calls x4_2 t103 _ A7.out).mono ?_); rintro e w12 ⟨v104, rfl, ho0, hb⟩; refine ⟨_, rfl, ?_⟩; have n0_ := Aside0.mk (Kd.R_lower ho0 (below_size (by repeat (first | (with_reducible first | exact HB.out | apply below_alloc | apply pw_below_drewN | apply below_drew1) | exact HB.out)))); have n1_ := Aside0.mk (below_step (by repeat (first | (with_reducible first | exact HB.out | apply below_alloc | apply pw_below_drewN | apply below_drew1) | exact HB.out)) hb); clear HB; have HO105 := n0_; have HB := n1_; clear n0_ n1_; (try clear hb); (try clear hb2); (try clear hk); (try clear hi); (try clear ho0); obtain ⟨Ao13, co13, eo13⟩ := Kd.R_slice HO105.out; subst eo13) | ((with_reducible refine gate_callee (f := 50) rfl ?_); refine goesL_ (some 28) rfl rfl Try.func50 (by kernel_rfl) rfl #[.slice Ao13 t103.length co13, .int .i64 a0] rfl (by (try simp only [List.map_toArray, List.map_cons, List.map_nil]); first | done | rfl | (simp only [List.length_drop, List.length_take]; rfl)) ?_; (with_reducible refine (parquetryref05_in.calls k2 _ _ t103 a0 false _ ?side1 ?side2 A8.out).mono ?_); (case side1 => repeat (first | exact (Kd.R_reads' HO105.out).2.2 | (with_reducible refine Kd.C_alloc ?_ _) | (with_reducible refine Kd.C_drewN ?_ _) | (with_reducible refine Kd.C_drew ?_))); (case side2 => exact (Kd.R_reads' HO105.out).2.1); rintro e w' ⟨rfl, ⟨nd, rfl⟩⟩; refine ⟨_, rfl, ?_⟩))
                go_roundg k2
                case measure => have := HK1.out; have := HK2.out; omega
                case rel => exact ⟨(wrap64 (x4_2 + 1)), (by first | rfl | (simp; done) | (simp [*]; done)), H', ⟨by have := HK1.out; have := HK2.out; omega⟩, ⟨by repeat (first | (with_reducible first | exact HB.out | apply below_alloc | apply pw_below_drewN | apply below_drew1) | exact HB.out)⟩⟩
            · rw [if_neg c6] at H
              have c6b0 : decide (x4_2 < 12) = false := decide_eq_false c6
              clear c6
              obtain rfl := Option.some.inj H
              go_wp2
              go_ret
              exact ⟨by first | rfl | (simp [errW_none, errW_some] <;> rfl) | (simp [*, errW_none, errW_some] <;> rfl), by repeat (first | (with_reducible first | exact HB.out | apply below_alloc | apply pw_below_drewN | apply below_drew1) | exact HB.out)⟩

-- NOT PRINTED: function 52 (gcb_edges)

/-! ### cmp_isNaN_int: function 74 -/
def cmp_isNaN_int.f (a0 : Int) : Option (Bool) := some (a0 != a0)
set_option maxHeartbeats 8000000 in
set_option maxRecDepth 100000 in
theorem cmp_isNaN_int.calls (a0 : Int) (r : Bool) (w : World) (h : cmp_isNaN_int.f a0 = some r) :
    Calls Try.prog 74 #[.int .i64 a0] w fun e w' => e = .returned (.bool r) ∧ Drawn0 w w' := by
  have H : (some (a0 != a0)) = some r := h
  clear h
  obtain rfl := Option.some.inj H
  go_enter Try.func74, Try.ntmps74
  go_wp2
  go_ret
  exact ⟨by first | rfl | (simp; done) | (simp [*]; done), by repeat (first | exact Drawn0.refl _ | apply Drawn0.step)⟩

end Go.Proofs.Ytgbkfjdkejjmpaa.PC05
