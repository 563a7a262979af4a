/- For the laws of the group C06: the Lean functions that the Go functions compute, and proofs that they do. Written by wip/hprint.py of this repo over the kit's printer; nothing here is trusted: Lean checks it. -/
import Derived.Test.YtgbkfjdkejjmpaaPC06x0
namespace Go.Proofs.Ytgbkfjdkejjmpaa.PC06
open Go.RowKit Go.Proofs.YtgbkfjdkejjmpaaW.PrintWords Go.Proofs.YtgbkfjdkejjmpaaW.PrintLast Go.Proofs.YtgbkfjdkejjmpaaW.PrintMore
attribute [local go_sem] max2_int min2_int max_two min_two max_three min_three max_four min_four   -- for this text's walks alone
set_option linter.unusedVariables false
set_option linter.unusedSimpArgs false

/-! ### runes_Split: function 30: by hand -/
/-- One round: the last rune's size is told, the next one is put behind it. -/
def runes_Split.fix (l : List (S37)) (p : Int) : List (S37) :=
  if 0 < l.length then l.set (l.length - 1) (⟨(l.getD (l.length - 1) z37).f0, wrap64 (p - (l.getD (l.length - 1) z37).f0), (l.getD (l.length - 1) z37).f2⟩ : S37) else l
def runes_Split.l0 : Nat → ByteArray → List (S37) → Nat → Option (List (S37))
  | 0, _, _, _ => none
  | k + 1, s, l, p => if p < s.size then
      (if (runes_Split.fix l p).length < 5864062014805 then runes_Split.l0 k s (runes_Split.fix l p ++ [(⟨(p : Int), wrap64 ((s.size : Int) - (p : Int)), ((Utf8.decode s p).1 : Int)⟩ : S37)]) (p + (Utf8.decode s p).2) else none)
    else some l
def runes_Split.f (a0 : ByteArray) : Option (List (S37)) := runes_Split.l0 (a0.size + 1) a0 [] 0
open Go.Proofs.YtgbkfjdkejjmpaaH in
set_option maxHeartbeats 4000000 in
set_option maxRecDepth 100000 in
theorem runes_Split.calls (a0 : ByteArray) (r : List (S37)) (w : World) (h : runes_Split.f a0 = some r) :
    Calls Try.prog 30 #[.string a0] w fun e w' => ∃ v0_ : Value, e = .returned (v0_) ∧ Kd.R k37 37 w' w.heap.size (fun _ => True) v0_ r ∧ Below w.heap.size w w' := by
  have hu27 := Try.underlying37
  have HB := Aside0.mk (Below.refl w.heap.size w)
  have H' := Aside0.mk h
  clear h
  go_enter Try.func30, Try.ntmps30
  go_wp2_with (first | ((with_reducible refine gate_dst (N := 8) rfl ?_); refine range_event rfl 9 (.tmp 7) rfl Try.underlying9 a0 rfl ?_; intro gb w1 hg hit hb; have n0_ := Aside0.mk (below_step (by repeat (first | (with_reducible first | exact HB.out | apply below_alloc | apply pw_below_drewN | apply below_drew1) | exact HB.out)) hb); have HG := Aside0.mk (show w.heap.size ≤ gb by rw [hg]; exact HB.out.size); have HI := Aside0.mk hit; clear HB; have HB := n0_; clear n0_; clear hg hit hb))
  (try simp only [Act.put, List.setIfInBounds_toArray, List.set_cons_zero, List.set_cons_succ])
  go_loopg [3] (a0.size + 1) (fun kq v3 w' => ∃ (x3 : List (S37)) (p : Nat), Aside0 (runes_Split.l0 kq a0 x3 p = some r) ∧ Aside0 (kq ≤ a0.size + 1) ∧ Aside0 (w'.heap[gb]? = some (.stringIter a0 p)) ∧ Aside0 (Kd.R k37 37 w' w.heap.size (fun _ => True) v3 x3) ∧ Aside0 (Below w.heap.size w w'))
  case atStart => exact ⟨[], 0, H', ⟨Nat.le_refl _⟩, HI, ⟨Kd.R_nil _ _ _ _ _⟩, HB⟩
  case round =>
    clear H' HI HB
    obtain ⟨x3, p, HA, HK, HI, HO, HB⟩ := hrel
    cases gk with
    | zero => exact absurd HA.out (by simp [runes_Split.l0])
    | succ k1 =>
      have H := HA.out
      clear HA
      simp only [runes_Split.l0] at H
      by_cases hp : p < a0.size
      · rw [if_pos hp] at H
        have HP := Aside0.mk hp
        clear hp
        have hlm : x3.length ≤ 9223372036854775807 := by obtain ⟨A_, c_, he_, _, hC_⟩ := Kd.R_reads HO.out; exact hC_.2.1
        have hdb := Go.Proofs.YtgbkfjdkejjmpaaH.decode_bound a0 p
        by_cases hc : (runes_Split.fix x3 p).length < 5864062014805
        · rw [if_pos hc] at H
          have LM := Aside0.mk hc
          clear hc
          have H' := Aside0.mk H
          clear H
          by_cases hl : 0 < x3.length
          · have HL := Aside0.mk hl
            obtain ⟨go3, co3, rfl, hgb, hgl, hty⟩ := Kd.R_form HO.out hl
            clear hty
            go_wp2_with (first | ((with_reducible refine gate_dst (N := 9) rfl ?_); refine next_event rfl (.tmp 8) rfl a0 gb p rfl HI.out HP.out ?_; intro w2 hw; have n0_ := Aside0.mk (show Below w.heap.size w w2 by rw [hw]; exact iterTo_below _ _ HB.out HG.out); have n1_ := Aside0.mk (show w2.heap[gb]? = some (.stringIter a0 (p + (Utf8.decode a0 p).2)) by rw [hw]; exact iterTo_at _ _ _ _ (lt_of_get HI.out)); have n2_ := Aside0.mk (show Kd.R k37 37 w2 w.heap.size (fun _ => True) _ x3 by rw [hw]; exact R_iter HO.out HI.out); clear HB HI HO; have HB := n0_; have HI := n1_; have HO := n2_; clear n0_ n1_ n2_ hw; obtain ⟨ce, hcl, hM, hcc, hfr⟩ := Kd.R_elem HO.out z37 ((x3.length : Int) - 1) (by omega) (by omega); rw [show ((x3.length : Int) - 1).toNat = x3.length - 1 from by omega] at hcc hM; generalize hy : x3.getD (x3.length - 1) z37 = y at hM; obtain rfl := k37_openM hM; have HF := Aside0.mk (show runes_Split.fix x3 p = x3.set (x3.length - 1) (⟨y.f0, wrap64 ((p : Int) - y.f0), y.f2⟩ : S37) by unfold runes_Split.fix; rw [if_pos HL.out, hy]); clear hy; have hx0 := hcc 0 _ rfl; simp only [show k37.sz = 3 from rfl, Nat.mul_one, Nat.add_zero] at hx0; have HCC := Aside0.mk hcc; have HM := Aside0.mk hM; clear hcc hcl hM hfr) | ((with_reducible refine gate_store (t := 3) (p := 29) rfl ?_); refine Kd.R_store k37 (w0 := w) w.heap.size rfl rfl 3 (.tmp 29) (.tmp 27) rfl 37 (g := go3) (n := x3.length) (cap := co3) (o' := (x3.length - 1) * 3 + 1) ((x3.length : Int) - 1) 1 x3 (⟨y.f0, wrap64 ((p : Int) - y.f0), y.f2⟩ : S37) (.int .i64 (wrap64 ((p : Int) - y.f0))) [.int .i64 (wrap64 ((p : Int) - y.f0))] [.int .i64 y.f0, .int .i64 y.f1, .int .i64 y.f2] (fun _ => True) (fun k => True ∧ k ≠ go3) rfl ?sO rfl rfl (by kernel_rfl) ?s1 HO.out (by omega) (by omega) rfl ?sC (show 1 + 1 ≤ 3 by decide) ?sM (fun _ hk => hk) HB.out ?_; (case sO => rw [show ((x3.length : Int) - 1).toNat = x3.length - 1 from by omega]; rfl); (case s1 => intro q hq; rw [List.mem_singleton.1 hq]; rfl); (case sC => rw [show ((x3.length : Int) - 1).toNat = x3.length - 1 from by omega]; exact HCC.out); (case sM => exact k37_mkM _ _ _ (⟨y.f0, wrap64 ((p : Int) - y.f0), y.f2⟩ : S37)); intro w3 hrow hbel hgr; rw [show ((x3.length : Int) - 1).toNat = x3.length - 1 from by omega, ← HF.out] at hrow; have n0_ := Aside0.mk hbel; have n2_ := Aside0.mk hrow; have n1_ := Aside0.mk (blk_grown HI.out hgr (R_ne_iter HO.out HI.out)); clear HB HI HO hbel hrow hgr hx0 HCC HM; have HB := n0_; have HI := n1_; have HO := n2_; clear n0_ n1_ n2_) | ((with_reducible refine gate_builtin (b := .append) (xs := #[.tmp 30, .tmp 39]) rfl ?_); at_builtin; refine Kd.R_append k37 (w0 := w) w.heap.size rfl (.tmp 30) (.tmp 39) 32 37 (.agg #[(.int .i64 0), (.int .i64 0), (.int .i64 0)]) 24 rfl Try.underlying32 info37 rfl (by decide) (by omega) (.slice (some ⟨go3, 0, none⟩) x3.length co3) (runes_Split.fix x3 p) (⟨(p : Int), wrap64 ((a0.size : Int) - (p : Int)), ((Utf8.decode a0 p).1 : Int)⟩ : S37) [.int .i64 (p : Int), .int .i64 (wrap64 ((a0.size : Int) - (p : Int))), .int .i64 ((Utf8.decode a0 p).1 : Int)] (fun _ => True) (fun _ => False) rfl rfl ?aP (fun _ hk => hk.elim) ?aF ?aO ?aB ?aS ?aL ?_; (case aP => exact k37_mkM _ _ _ _); (case aB => exact HB.out); (case aF => exact (fun _ _ => trivial)); (case aO => exact HO.out); (case aS => exact (below_size HB.out)); (case aL => have := LM.out; omega); intro v9 w9 ho hb hg hat; have n0_ := Aside0.mk hb; have n1_ := Aside0.mk ho; have n2_ := Aside0.mk (blk_grown HI.out hg (R_ne_iter HO.out HI.out)); clear HB HI HO ho hb hg hat; have HB := n0_; have HO := n1_; have HI := n2_; clear n0_ n1_ n2_))
            go_roundg k1
            case measure => omega
            case rel => exact ⟨_, _, H', ⟨by have := HK.out; omega⟩, HI, HO, HB⟩
          · have hl0 : x3 = [] := List.eq_nil_of_length_eq_zero (by omega)
            subst hl0
            have HF := Aside0.mk (show runes_Split.fix [] p = [] from rfl)
            obtain ⟨A3, c3, rfl⟩ := Kd.R_slice HO.out
            go_wp2_with (first | ((with_reducible refine gate_dst (N := 9) rfl ?_); refine next_event rfl (.tmp 8) rfl a0 gb p rfl HI.out HP.out ?_; intro w2 hw; have n0_ := Aside0.mk (show Below w.heap.size w w2 by rw [hw]; exact iterTo_below _ _ HB.out HG.out); have n1_ := Aside0.mk (show w2.heap[gb]? = some (.stringIter a0 (p + (Utf8.decode a0 p).2)) by rw [hw]; exact iterTo_at _ _ _ _ (lt_of_get HI.out)); have n2_ := Aside0.mk (show Kd.R k37 37 w2 w.heap.size (fun _ => True) _ [] by rw [hw]; exact R_iter HO.out HI.out); clear HB HI HO; have HB := n0_; have HI := n1_; have HO := n2_; clear n0_ n1_ n2_ hw) | ((with_reducible refine gate_builtin (b := .append) (xs := #[.tmp 30, .tmp 39]) rfl ?_); at_builtin; refine Kd.R_append k37 (w0 := w) w.heap.size rfl (.tmp 30) (.tmp 39) 32 37 (.agg #[(.int .i64 0), (.int .i64 0), (.int .i64 0)]) 24 rfl Try.underlying32 info37 rfl (by decide) (by omega) (.slice A3 0 c3) (runes_Split.fix [] p) (⟨(p : Int), wrap64 ((a0.size : Int) - (p : Int)), ((Utf8.decode a0 p).1 : Int)⟩ : S37) [.int .i64 (p : Int), .int .i64 (wrap64 ((a0.size : Int) - (p : Int))), .int .i64 ((Utf8.decode a0 p).1 : Int)] (fun _ => True) (fun _ => False) rfl rfl ?aP (fun _ hk => hk.elim) ?aF ?aO ?aB ?aS ?aL ?_; (case aP => exact k37_mkM _ _ _ _); (case aB => exact HB.out); (case aF => exact (fun _ _ => trivial)); (case aO => rw [HF.out]; exact HO.out); (case aS => exact (below_size HB.out)); (case aL => have := LM.out; omega); intro v9 w9 ho hb hg hat; have n0_ := Aside0.mk hb; have n1_ := Aside0.mk ho; have n2_ := Aside0.mk (blk_grown HI.out hg (R_ne_iter HO.out HI.out)); clear HB HI HO ho hb hg hat; have HB := n0_; have HO := n1_; have HI := n2_; clear n0_ n1_ n2_))
            go_roundg k1
            case measure => omega
            case rel => exact ⟨_, _, H', ⟨by have := HK.out; omega⟩, HI, HO, HB⟩
        · rw [if_neg hc] at H
          exact absurd H (by simp)
      · rw [if_neg hp] at H
        have HP := Aside0.mk hp
        clear hp
        injection H with H
        subst H
        go_wp2_with (first | ((with_reducible refine gate_dst (N := 9) rfl ?_); refine next_end rfl (.tmp 8) rfl a0 gb p rfl HI.out HP.out ?_))
        go_ret
        exact ⟨_, rfl, HO.out, HB.out⟩


-- NOT PRINTED: function 40 (cols_narrow)

-- NOT PRINTED: function 41 (cols_wide)

-- NOT PRINTED: function 65 (slices_BinarySearchFunc_int_int_int)

-- NOT PRINTED: function 42 (cols_within)

/-! ### cols_Of: function 16: by hand -/
def cols_Of.narrowL : List Int := [0, 32, 127, 160, 173, 174, 768, 880, 1155, 1162, 1425, 1470, 1471, 1472, 1473, 1475, 1476, 1478, 1479, 1480, 1536, 1542, 1552, 1563, 1564, 1565, 1611, 1632, 1648, 1649, 1750, 1758, 1759, 1765, 1767, 1769, 1770, 1774, 2274, 2275, 2362, 2363, 2364, 2365, 2369, 2377, 2381, 2382, 3633, 3634, 3636, 3643, 3655, 3663, 4448, 4608, 6832, 6863, 7616, 7680, 8203, 8208, 8232, 8239, 8288, 8304, 8400, 8433, 12330, 12334, 12441, 12443, 42607, 42611, 55216, 55292, 64286, 64287, 65024, 65040, 65056, 65072, 65279, 65280, 65529, 65532, 917505, 917632, 917760, 918000]
def cols_Of.wideL : List Int := [4352, 4448, 8986, 8988, 9193, 9197, 9200, 9201, 9203, 9204, 9725, 9727, 9748, 9750, 9800, 9812, 9855, 9856, 9875, 9876, 9889, 9890, 9898, 9900, 9917, 9919, 9924, 9926, 9934, 9935, 9940, 9941, 9962, 9963, 9970, 9972, 9973, 9974, 9978, 9979, 9981, 9982, 9989, 9990, 9994, 9996, 10024, 10025, 10060, 10061, 10062, 10063, 10067, 10070, 10071, 10072, 10133, 10136, 10160, 10161, 10175, 10176, 11035, 11037, 11088, 11089, 11093, 11094, 11904, 11930, 11931, 12020, 12032, 12246, 12272, 12330, 12334, 12351, 12353, 12439, 12443, 12544, 12549, 12592, 12593, 12687, 12688, 12772, 12784, 12831, 12832, 12872, 12880, 19904, 19968, 42125, 42128, 42183, 43360, 43389, 44032, 55204, 63744, 64256, 65040, 65050, 65072, 65107, 65108, 65127, 65128, 65132, 65281, 65377, 65504, 65511, 126980, 126981, 127183, 127184, 127374, 127375, 127377, 127387, 127462, 127491, 127744, 127777, 127789, 127798, 127799, 127869, 127870, 127892, 127904, 127947, 127951, 127956, 127968, 127985, 127988, 127989, 127992, 128063, 128064, 128065, 128066, 128253, 128255, 128318, 128331, 128335, 128336, 128360, 128378, 128379, 128405, 128407, 128420, 128421, 128507, 128592, 128640, 128710, 128716, 128717, 128720, 128723, 128747, 128749, 128756, 128765, 129292, 129339, 129340, 129350, 129351, 129536, 129648, 129792, 131072, 196606, 196608, 262142]
/-- Does an odd number of ends stand at a number, or ahead of it? -/
def cols_Of.oddIn (l : List Int) (c : Int) : Bool := l.countP (fun x => decide (x ≤ c)) % 2 == 1
def cols_Of.f (a0 : Int) : Option Int := some (if cols_Of.oddIn cols_Of.narrowL a0 = true then 0 else if cols_Of.oddIn cols_Of.wideL a0 = true then 2 else 1)
section
open Go.Proofs.YtgbkfjdkejjmpaaH
theorem cols_Of.less_le (x y : Int) (W : World) (h : x ≤ y) : Calls Try.prog 66 #[.int .i64 x, .int .i64 y] W fun e w' => e = .returned (.int .i64 (-1)) ∧ Below W.heap.size W w' := by
  have hb : decide (x ≤ y) = true := decide_eq_true h
  clear h
  go_enter Try.func66, Try.ntmps66
  go_wp2
  go_ret
  exact ⟨rfl, Below.refl _ _⟩
theorem cols_Of.less_gt (x y : Int) (W : World) (h : ¬ x ≤ y) : Calls Try.prog 66 #[.int .i64 x, .int .i64 y] W fun e w' => e = .returned (.int .i64 1) ∧ Below W.heap.size W w' := by
  have hb : decide (x ≤ y) = false := decide_eq_false h
  clear h
  go_enter Try.func66, Try.ntmps66
  go_wp2
  go_ret
  exact ⟨rfl, Below.refl _ _⟩
set_option maxHeartbeats 1000000 in
set_option maxRecDepth 100000 in
theorem cols_Of.search (ls : List Int) (g c n : Nat) (y : Int) (w : World) (hn : n = ls.length) (hg : g < w.heap.size) (hc : ∀ j, j < n → w.cell? ⟨g, j, none⟩ = some (.int .i64 (nth ls j))) (hlen : n < 4611686018427387904) (hs : ∀ a b, a ≤ b → b < n → nth ls a ≤ nth ls b) :
    Calls Try.prog 65 #[.slice (some ⟨g, 0, none⟩) n c, .int .i64 y, .func (.func 66) #[] #[]] w fun e w' => e = .returned (.tuple #[.int .i64 ((ls.countP (fun x => decide (x ≤ y)) : Nat) : Int), .bool false]) ∧ Below w.heap.size w w' := by
  have eg : ∀ args w, (callFunc 66 args).run Try.prog w = .ok (.enter 66 args) w := enters_of Try.func66 (by kernel_rfl) rfl
  have HC := Aside0.mk hc
  have HS := Aside0.mk hs
  have HG := Aside0.mk hg
  have HN := Aside0.mk hn
  have HB0 := Aside0.mk (Below.refl w.heap.size w)
  clear hc hs hg hn
  obtain ⟨cnt, hcnt⟩ : ∃ m, m = ls.countP (fun x => decide (x ≤ y)) := ⟨_, rfl⟩
  rw [← hcnt]
  have HCN := Aside0.mk hcnt
  clear hcnt
  go_enter Try.func65, Try.ntmps65
  go_wp2
  go_loopg [9, 10] n (fun kx s9 s10 wr => ∃ lo hi : Nat, s9 = .int .i64 lo ∧ s10 = .int .i64 hi ∧ lo ≤ hi ∧ hi ≤ n ∧ hi - lo ≤ kx ∧ Aside0 (Below w.heap.size w wr) ∧ Aside0 ((∀ t, t < lo → nth ls t ≤ y) ∧ (∀ t, hi ≤ t → t < n → y < nth ls t)))
  case atStart => exact ⟨0, n, rfl, rfl, Nat.zero_le _, Nat.le_refl _, by omega, HB0, ⟨fun t ht => absurd ht (Nat.not_lt_zero _), fun t h1 h2 => by omega⟩⟩
  case round =>
    clear HB0
    obtain ⟨lo, hi, rfl, rfl, hlh, hin, hk, HB, I⟩ := hrel
    by_cases hlt : lo < hi
    · have cm : wr.cell? ⟨g, (lo + hi) / 2, none⟩ = some (.int .i64 (nth ls ((lo + hi) / 2))) := (HB.out.cell (p := ⟨g, (lo + hi) / 2, none⟩) HG.out).trans (HC.out _ (by omega))
      generalize hv : nth ls ((lo + hi) / 2) = v at cm
      have V := Aside0.mk hv
      clear hv
      by_cases hvy : v ≤ y
      · have HV := Aside0.mk hvy
        clear hvy
        go_wp2_with (go_at_fn 66; refine (cols_Of.less_le _ _ _ HV.out).mono ?_; rintro e w2 ⟨rfl, hb2⟩; have n0_ := Aside0.mk (below_step HB.out hb2); clear HB hb2; have HB := n0_; clear n0_)
        go_roundg (hi - ((lo + hi) / 2 + 1))
        case measure => omega
        case rel =>
          refine ⟨(lo + hi) / 2 + 1, hi, by rw [show ((lo : Int) + (hi : Int)) / 2 + 1 = (((lo + hi) / 2 + 1 : Nat) : Int) by omega], rfl, by omega, hin, Nat.le_refl _, HB, ⟨fun t ht => ?_, I.out.2⟩⟩
          have := HS.out t ((lo + hi) / 2) (by omega) (by omega)
          rw [V.out] at this
          have := HV.out
          omega
      · have HV := Aside0.mk hvy
        clear hvy
        go_wp2_with (go_at_fn 66; refine (cols_Of.less_gt _ _ _ HV.out).mono ?_; rintro e w2 ⟨rfl, hb2⟩; have n0_ := Aside0.mk (below_step HB.out hb2); clear HB hb2; have HB := n0_; clear n0_)
        go_roundg ((lo + hi) / 2 - lo)
        case measure => omega
        case rel =>
          refine ⟨lo, (lo + hi) / 2, rfl, by rw [show ((lo : Int) + (hi : Int)) / 2 = (((lo + hi) / 2 : Nat) : Int) by omega], by omega, by omega, Nat.le_refl _, HB, ⟨I.out.1, fun t ht htn => ?_⟩⟩
          have := HS.out ((lo + hi) / 2) t ht htn
          rw [V.out] at this
          have := HV.out
          omega
    · obtain rfl : hi = lo := by omega
      have ecnt : cnt = hi := by
        rw [HCN.out]
        exact count_split ls (fun x => decide (x ≤ y)) hi (by rw [← HN.out]; exact hin) (fun t ht => decide_eq_true (I.out.1 t ht)) (fun t h1 h2 => decide_eq_false (by have := I.out.2 t h1 (by rw [HN.out]; exact h2); omega))
      clear HCN
      subst ecnt
      by_cases hcn : cnt < n
      · have cm : wr.cell? ⟨g, cnt, none⟩ = some (.int .i64 (nth ls cnt)) := (HB.out.cell (p := ⟨g, cnt, none⟩) HG.out).trans (HC.out _ hcn)
        have HV := Aside0.mk (show ¬ nth ls cnt ≤ y by have := I.out.2 cnt (Nat.le_refl _) hcn; omega)
        generalize nth ls cnt = v at cm HV
        go_wp2_with (go_at_fn 66; refine (cols_Of.less_gt _ _ _ HV.out).mono ?_; rintro e w2 ⟨rfl, hb2⟩; have n0_ := Aside0.mk (below_step HB.out hb2); clear HB hb2; have HB := n0_; clear n0_)
        go_ret2
        exact ⟨rfl, HB.out⟩
      · go_wp2
        go_ret2
        exact ⟨rfl, HB.out⟩
set_option maxRecDepth 100000 in
theorem cols_Of.narrow_build (W : World) : (Instr.build 51 ((nums .i64 cols_Of.narrowL).zipIdx.map fun (x, i) => (i, x)).toArray).run Try.prog W = .ok (.agg (nums .i64 cols_Of.narrowL).toArray) W := by rfl
set_option maxRecDepth 100000 in
theorem cols_Of.narrow_size : (nums .i64 cols_Of.narrowL).toArray.size = 90 := by decide
set_option maxHeartbeats 4000000 in
set_option maxRecDepth 100000 in
theorem cols_Of.narrow_calls (w : World) : Calls Try.prog 40 #[] w fun e w' => e = .returned (.agg (nums .i64 cols_Of.narrowL).toArray) ∧ Below w.heap.size w w' := by
  go_enter Try.func40, Try.ntmps40
  go_wp2_with (first | ((with_reducible refine gate_dst (N := 0) rfl ?_); refine alloc_event rfl 51 rfl 90 (by kernel_rfl) ?_; intro g w1 cs hcs hg hb hbel hsz; have HG := Aside0.mk (show w.heap.size ≤ g by omega); have HB := Aside0.mk hbel; have HH := Aside0.mk hb; have HCS := Aside0.mk hcs; clear hcs hg hb hbel hsz) | ((with_reducible refine gate_dst (N := 1) rfl ?_); refine build_event rfl (N := 1) rfl 51 (nums .i64 cols_Of.narrowL) ?ho (.agg (nums .i64 cols_Of.narrowL).toArray) (cols_Of.narrow_build _) ?_; (case ho => kernel_rfl); generalize hV : Value.agg (nums .i64 cols_Of.narrowL).toArray = V; have HV := Aside0.mk hV; clear hV) | ((with_reducible refine gate_store (t := 51) (p := 0) rfl ?_); refine block_store rfl rfl 51 (.tmp 0) (.tmp 1) rfl rfl V rfl HH.out (by rw [HCS.out, ← HV.out]; exact cols_Of.narrow_size) (by rw [HCS.out]; kernel_rfl) (by rw [← HV.out]; exact nums_one _) ?_; intro w2 hb2 hk2 hs2 hB2; have HB2 := Aside0.mk (hB2 _ _ HB.out HG.out); have HH2 := Aside0.mk (show w2.heap[g]? = some (.cells (nums .i64 cols_Of.narrowL).toArray 51 (0, 0)) by rw [← HV.out] at hb2; exact hb2); clear hb2 hk2 hs2 hB2 HB HH))
  exact bodyPost_ret (v := (.agg (nums .i64 cols_Of.narrowL).toArray)) (results_c1 rfl _ _ _ _ _ _ _ rfl HH2.out Try.underlying51 rfl (by rw [cols_Of.narrow_size]; kernel_rfl)) rfl ⟨rfl, HB2.out⟩
set_option maxRecDepth 100000 in
theorem cols_Of.wide_build (W : World) : (Instr.build 53 ((nums .i64 cols_Of.wideL).zipIdx.map fun (x, i) => (i, x)).toArray).run Try.prog W = .ok (.agg (nums .i64 cols_Of.wideL).toArray) W := by rfl
set_option maxRecDepth 100000 in
theorem cols_Of.wide_size : (nums .i64 cols_Of.wideL).toArray.size = 184 := by decide
set_option maxHeartbeats 4000000 in
set_option maxRecDepth 100000 in
theorem cols_Of.wide_calls (w : World) : Calls Try.prog 41 #[] w fun e w' => e = .returned (.agg (nums .i64 cols_Of.wideL).toArray) ∧ Below w.heap.size w w' := by
  go_enter Try.func41, Try.ntmps41
  go_wp2_with (first | ((with_reducible refine gate_dst (N := 0) rfl ?_); refine alloc_event rfl 53 rfl 184 (by kernel_rfl) ?_; intro g w1 cs hcs hg hb hbel hsz; have HG := Aside0.mk (show w.heap.size ≤ g by omega); have HB := Aside0.mk hbel; have HH := Aside0.mk hb; have HCS := Aside0.mk hcs; clear hcs hg hb hbel hsz) | ((with_reducible refine gate_dst (N := 1) rfl ?_); refine build_event rfl (N := 1) rfl 53 (nums .i64 cols_Of.wideL) ?ho (.agg (nums .i64 cols_Of.wideL).toArray) (cols_Of.wide_build _) ?_; (case ho => kernel_rfl); generalize hV : Value.agg (nums .i64 cols_Of.wideL).toArray = V; have HV := Aside0.mk hV; clear hV) | ((with_reducible refine gate_store (t := 53) (p := 0) rfl ?_); refine block_store rfl rfl 53 (.tmp 0) (.tmp 1) rfl rfl V rfl HH.out (by rw [HCS.out, ← HV.out]; exact cols_Of.wide_size) (by rw [HCS.out]; kernel_rfl) (by rw [← HV.out]; exact nums_one _) ?_; intro w2 hb2 hk2 hs2 hB2; have HB2 := Aside0.mk (hB2 _ _ HB.out HG.out); have HH2 := Aside0.mk (show w2.heap[g]? = some (.cells (nums .i64 cols_Of.wideL).toArray 53 (0, 0)) by rw [← HV.out] at hb2; exact hb2); clear hb2 hk2 hs2 hB2 HB HH))
  exact bodyPost_ret (v := (.agg (nums .i64 cols_Of.wideL).toArray)) (results_c1 rfl _ _ _ _ _ _ _ rfl HH2.out Try.underlying53 rfl (by rw [cols_Of.wide_size]; kernel_rfl)) rfl ⟨rfl, HB2.out⟩
set_option maxHeartbeats 1000000 in
set_option maxRecDepth 100000 in
theorem cols_Of.within_calls (ls : List Int) (g c n : Nat) (y : Int) (w : World) (hn : n = ls.length) (hg : g < w.heap.size) (hc : ∀ j, j < n → w.cell? ⟨g, j, none⟩ = some (.int .i64 (nth ls j))) (hlen : n < 1000000) (hs : ∀ a b, a ≤ b → b < n → nth ls a ≤ nth ls b) :
    Calls Try.prog 42 #[.slice (some ⟨g, 0, none⟩) n c, .int .i64 y] w fun e w' => e = .returned (.bool (cols_Of.oddIn ls y)) ∧ Below w.heap.size w w' := by
  have hcall := fun W (hb : Below w.heap.size w W) => cols_Of.search ls g c n y W hn (Nat.lt_of_lt_of_le hg hb.size) (fun j hj => (hb.cell (p := ⟨g, j, none⟩) hg).trans (hc j hj)) (by omega) hs
  have HCALL := Aside0.mk hcall
  have hle : ls.countP (fun x => decide (x ≤ y)) ≤ n := by rw [hn]; exact List.countP_le_length
  have HO := Aside0.mk (show cols_Of.oddIn ls y = (ls.countP (fun x => decide (x ≤ y)) % 2 == 1) from rfl)
  clear hcall hg hc hs hn
  generalize ls.countP (fun x => decide (x ≤ y)) = cnt at *
  rw [HO.out]
  clear HO
  by_cases hp : (cnt : Int) % 2 = 1
  · have hq : (cnt % 2 == 1) = true := by rw [beq_iff_eq]; omega
    rw [hq]
    have hpb : ((cnt : Int) % 2 == 1) = true := beq_iff_eq.mpr hp
    clear hp hq
    go_enter Try.func42, Try.ntmps42
    go_wp2_with (go_at_call 65; refine (HCALL.out _ (Below.refl _ _)).mono ?_; rintro e w2 ⟨rfl, hb2⟩; have HB := Aside0.mk hb2; clear hb2)
    go_ret
    exact ⟨rfl, HB.out⟩
  · have hq : (cnt % 2 == 1) = false := by rw [beq_eq_false_iff_ne]; omega
    rw [hq]
    have hpb : ((cnt : Int) % 2 == 1) = false := beq_eq_false_iff_ne.mpr hp
    clear hp hq
    go_enter Try.func42, Try.ntmps42
    go_wp2_with (go_at_call 65; refine (HCALL.out _ (Below.refl _ _)).mono ?_; rintro e w2 ⟨rfl, hb2⟩; have HB := Aside0.mk hb2; clear hb2)
    go_ret
    exact ⟨rfl, HB.out⟩
theorem cols_Of.narrow_up : ∀ a b, a ≤ b → b < 90 → nth cols_Of.narrowL a ≤ nth cols_Of.narrowL b := fun a b h1 h2 => rises_nth cols_Of.narrowL (by decide +kernel) a b h1 h2
theorem cols_Of.wide_up : ∀ a b, a ≤ b → b < 184 → nth cols_Of.wideL a ≤ nth cols_Of.wideL b := fun a b h1 h2 => rises_nth cols_Of.wideL (by decide +kernel) a b h1 h2
theorem cols_Of.blk_within (l : List Int) (n t g : Nat) (y : Int) (w W : World) (hn : n = l.length) (hlen : n < 1000000) (hh : W.heap[g]? = some (.cells (nums .i64 l).toArray t (0, 0))) (hs : ∀ a b, a ≤ b → b < n → nth l a ≤ nth l b) :
    Calls Try.prog 42 #[.slice (some ⟨g, 0, none⟩) n n, .int .i64 y] W fun e w' => e = .returned (.bool (cols_Of.oddIn l y)) ∧ Below W.heap.size W w' :=
  cols_Of.within_calls l g n n y W hn (blk_lt hh) (fun j hj => nums_cell W g t l hh j (by rw [← hn]; exact hj)) hlen hs
set_option maxHeartbeats 1000000 in
set_option maxRecDepth 100000 in
theorem cols_Of.calls (a0 : Int) (r : Int) (w : World) (h : cols_Of.f a0 = some r) :
    Calls Try.prog 16 #[.int .i64 a0] w fun e w' => e = .returned (.int .i64 r) ∧ Below w.heap.size w w' := by
  have HB := Aside0.mk (Below.refl w.heap.size w)
  have H := Option.some.inj h
  have H' := Aside0.mk H
  clear H h
  go_enter Try.func16, Try.ntmps16
  go_wp2_with (first | (go_at_call 40; refine (cols_Of.narrow_calls _).mono ?_; rintro e w2 ⟨rfl, hb2⟩; have n0_ := Aside0.mk (below_step HB.out hb2); clear HB hb2; have HB := n0_; clear n0_; generalize hV1 : Value.agg (nums .i64 cols_Of.narrowL).toArray = V1; have HV1 := Aside0.mk hV1; clear hV1) | (go_at_call 41; refine (cols_Of.wide_calls _).mono ?_; rintro e w3 ⟨rfl, hb2⟩; have n0_ := Aside0.mk (below_step HB.out hb2); clear HB hb2; have HB := n0_; clear n0_; generalize hV2 : Value.agg (nums .i64 cols_Of.wideL).toArray = V2; have HV2 := Aside0.mk hV2; clear hV2) | ((with_reducible refine gate_dst (N := 3) rfl ?_); refine alloc_event rfl 51 rfl 90 (by kernel_rfl) ?_; intro g3 w4 cs3 hcs hg hb hbel hsz; have HG3 := Aside0.mk (show w.heap.size ≤ g3 by rw [hg]; exact HB.out.size); have n0_ := Aside0.mk (below_step HB.out hbel); have HH3 := Aside0.mk hb; have HCS3 := Aside0.mk hcs; clear HB hcs hg hb hbel hsz; have HB := n0_; clear n0_) | ((with_reducible refine gate_dst (N := 4) rfl ?_); refine alloc_event rfl 53 rfl 184 (by kernel_rfl) ?_; intro g4 w5 cs4 hcs hg hb hbel hsz; have HG4 := Aside0.mk (show w.heap.size ≤ g4 by rw [hg]; exact HB.out.size); have HNE := Aside0.mk (show g3 ≠ g4 by have := blk_lt HH3.out; omega); have n0_ := Aside0.mk (below_step HB.out hbel); have n1_ := Aside0.mk (blk_below HH3.out hbel); have HH4 := Aside0.mk hb; have HCS4 := Aside0.mk hcs; clear HB HH3 hcs hg hb hbel hsz; have HB := n0_; have HH3 := n1_; clear n0_ n1_) | ((with_reducible refine gate_store (t := 51) (p := 3) rfl ?_); refine block_store rfl rfl 51 (.tmp 3) (.tmp 5) rfl rfl V1 rfl HH3.out (by rw [HCS3.out, ← HV1.out]; exact cols_Of.narrow_size) (by rw [HCS3.out]; kernel_rfl) (by rw [← HV1.out]; exact nums_one _) ?_; intro w6 hb2 hk2 hs2 hB2; have n0_ := Aside0.mk (hB2 _ _ HB.out HG3.out); have n1_ := Aside0.mk (show w6.heap[g3]? = some (.cells (nums .i64 cols_Of.narrowL).toArray 51 (0, 0)) by rw [← HV1.out] at hb2; exact hb2); have n2_ := Aside0.mk ((hk2 g4 (Ne.symm HNE.out)).trans HH4.out); clear hb2 hk2 hs2 hB2 HB HH3 HH4; have HB := n0_; have HH3 := n1_; have HH4 := n2_; clear n0_ n1_ n2_) | ((with_reducible refine gate_store (t := 53) (p := 4) rfl ?_); refine block_store rfl rfl 53 (.tmp 4) (.tmp 6) rfl rfl V2 rfl HH4.out (by rw [HCS4.out, ← HV2.out]; exact cols_Of.wide_size) (by rw [HCS4.out]; kernel_rfl) (by rw [← HV2.out]; exact nums_one _) ?_; intro w7 hb2 hk2 hs2 hB2; have n0_ := Aside0.mk (hB2 _ _ HB.out HG4.out); have n1_ := Aside0.mk (show w7.heap[g4]? = some (.cells (nums .i64 cols_Of.wideL).toArray 53 (0, 0)) by rw [← HV2.out] at hb2; exact hb2); have n2_ := Aside0.mk ((hk2 g3 HNE.out).trans HH3.out); clear hb2 hk2 hs2 hB2 HB HH3 HH4; have HB := n0_; have HH4 := n1_; have HH3 := n2_; clear n0_ n1_ n2_))
  refine (cols_Of.blk_within cols_Of.narrowL 90 51 g3 a0 w _ rfl (by omega) HH3.out cols_Of.narrow_up).mono ?_
  rintro e w8 ⟨rfl, hb8⟩
  have n0_ := Aside0.mk (below_step HB.out hb8)
  have n1_ := Aside0.mk (blk_below HH4.out hb8)
  clear HB HH4 HH3 hb8
  have HB := n0_
  have HH4 := n1_
  clear n0_ n1_
  generalize hb1 : cols_Of.oddIn cols_Of.narrowL a0 = b1
  rw [hb1] at H'
  clear hb1
  cases b1 with
  | true =>
    obtain rfl : (0 : Int) = r := H'.out
    clear H'
    go_wp2
    go_ret
    exact ⟨rfl, HB.out⟩
  | false =>
    go_wp2_with fail
    refine (cols_Of.blk_within cols_Of.wideL 184 53 g4 a0 w _ rfl (by omega) HH4.out cols_Of.wide_up).mono ?_
    rintro e w9 ⟨rfl, hb9⟩
    have n0_ := Aside0.mk (below_step HB.out hb9)
    clear HB hb9
    have HB := n0_
    clear n0_
    generalize hb2 : cols_Of.oddIn cols_Of.wideL a0 = b2
    rw [hb2] at H'
    clear hb2
    cases b2 with
    | true =>
      obtain rfl : (2 : Int) = r := H'.out
      clear H'
      go_wp2
      go_ret
      exact ⟨rfl, HB.out⟩
    | false =>
      obtain rfl : (1 : Int) = r := H'.out
      clear H'
      go_wp2
      go_ret
      exact ⟨rfl, HB.out⟩
end


-- NOT PRINTED: function 46 (gcb_steps)

-- NOT PRINTED: function 47 (gcb_step_int)

/-! ### gcb_Of: function 22: by hand -/
structure gcb_Of.Row where
  f : Int
  k : Int
def gcb_Of.rowsL : List gcb_Of.Row := [⟨0, 3⟩, ⟨10, 2⟩, ⟨11, 3⟩, ⟨13, 1⟩, ⟨14, 3⟩, ⟨32, 0⟩, ⟨127, 3⟩, ⟨160, 0⟩, ⟨173, 3⟩, ⟨174, 0⟩, ⟨768, 4⟩, ⟨880, 0⟩, ⟨1155, 4⟩, ⟨1162, 0⟩, ⟨1425, 4⟩, ⟨1470, 0⟩, ⟨1471, 4⟩, ⟨1472, 0⟩, ⟨1473, 4⟩, ⟨1475, 0⟩, ⟨1476, 4⟩, ⟨1478, 0⟩, ⟨1479, 4⟩, ⟨1480, 0⟩, ⟨1536, 7⟩, ⟨1542, 0⟩, ⟨1552, 4⟩, ⟨1563, 0⟩, ⟨1564, 3⟩, ⟨1565, 0⟩, ⟨1611, 4⟩, ⟨1632, 0⟩, ⟨1648, 4⟩, ⟨1649, 0⟩, ⟨1750, 4⟩, ⟨1757, 7⟩, ⟨1758, 0⟩, ⟨1759, 4⟩, ⟨1765, 0⟩, ⟨1767, 4⟩, ⟨1769, 0⟩, ⟨1770, 4⟩, ⟨1774, 0⟩, ⟨1807, 7⟩, ⟨1808, 0⟩, ⟨2274, 7⟩, ⟨2275, 0⟩, ⟨2307, 8⟩, ⟨2308, 0⟩, ⟨2362, 4⟩, ⟨2363, 8⟩, ⟨2364, 4⟩, ⟨2365, 0⟩, ⟨2366, 8⟩, ⟨2369, 4⟩, ⟨2377, 8⟩, ⟨2381, 4⟩, ⟨2382, 8⟩, ⟨2384, 0⟩, ⟨2434, 8⟩, ⟨2436, 0⟩, ⟨2494, 4⟩, ⟨2495, 0⟩, ⟨3406, 7⟩, ⟨3407, 0⟩, ⟨3633, 4⟩, ⟨3634, 0⟩, ⟨3635, 8⟩, ⟨3636, 4⟩, ⟨3643, 0⟩, ⟨3655, 4⟩, ⟨3663, 0⟩, ⟨3763, 8⟩, ⟨3764, 0⟩, ⟨4352, 9⟩, ⟨4448, 10⟩, ⟨4520, 11⟩, ⟨4608, 0⟩, ⟨6158, 3⟩, ⟨6159, 0⟩, ⟨6832, 4⟩, ⟨6863, 0⟩, ⟨7616, 4⟩, ⟨7680, 0⟩, ⟨8203, 3⟩, ⟨8204, 4⟩, ⟨8205, 5⟩, ⟨8206, 3⟩, ⟨8208, 0⟩, ⟨8232, 3⟩, ⟨8239, 0⟩, ⟨8288, 3⟩, ⟨8304, 0⟩, ⟨8400, 4⟩, ⟨8433, 0⟩, ⟨12330, 4⟩, ⟨12336, 0⟩, ⟨12441, 4⟩, ⟨12443, 0⟩, ⟨42607, 4⟩, ⟨42611, 0⟩, ⟨43360, 9⟩, ⟨43389, 0⟩, ⟨55216, 10⟩, ⟨55239, 0⟩, ⟨55243, 11⟩, ⟨55292, 0⟩, ⟨64286, 4⟩, ⟨64287, 0⟩, ⟨65024, 4⟩, ⟨65040, 0⟩, ⟨65056, 4⟩, ⟨65072, 0⟩, ⟨65279, 3⟩, ⟨65280, 0⟩, ⟨65438, 4⟩, ⟨65440, 0⟩, ⟨65520, 3⟩, ⟨65532, 0⟩, ⟨127462, 6⟩, ⟨127488, 0⟩, ⟨127995, 4⟩, ⟨128000, 0⟩, ⟨917504, 3⟩, ⟨917536, 4⟩, ⟨917632, 3⟩, ⟨917760, 4⟩, ⟨918000, 0⟩]
def gcb_Of.cells (r : gcb_Of.Row) : List Value := [.int .i64 r.f, .int .i64 r.k]
def gcb_Of.all : List Value := gcb_Of.rowsL.flatMap gcb_Of.cells
def gcb_Of.z : gcb_Of.Row := ⟨0, 0⟩
def gcb_Of.row (j : Nat) : gcb_Of.Row := gcb_Of.rowsL.getD j gcb_Of.z
/-- The kind of the last step at a number, or ahead of it. -/
def gcb_Of.kd : List gcb_Of.Row → Int → Int → Int
  | [], d, _ => d
  | r :: l, d, c => if r.f ≤ c then gcb_Of.kd l r.k c else d
/-- A number's kind, where the table says k. -/
def gcb_Of.kindV (k c : Int) : Int := if c < 44032 ∨ c > 55203 then k else if Int.tmod (c - 44032) 28 = 0 then 12 else 13
def gcb_Of.val (c : Int) : Int := if c < 0 then 0 else gcb_Of.kindV (gcb_Of.kd gcb_Of.rowsL 0 c) c
def gcb_Of.f (a0 : Int) : Option Int := if -9223372036854775808 ≤ a0 ∧ a0 ≤ 9223372036854775807 then some (gcb_Of.val a0) else none
section
open Go.Proofs.YtgbkfjdkejjmpaaH
set_option maxRecDepth 100000 in
theorem gcb_Of.rows_size : (gcb_Of.all).toArray.size = 256 := by decide
theorem gcb_Of.rows_one : ∀ q ∈ (Value.agg gcb_Of.all.toArray).cells.toList, q.oneCell' = true := by
  intro q hq
  have hq' : q ∈ gcb_Of.all := by simpa [Value.cells] using hq
  unfold gcb_Of.all at hq'
  obtain ⟨r, _, hr⟩ := List.mem_flatMap.1 hq'
  unfold gcb_Of.cells at hr
  simp only [List.mem_cons, List.not_mem_nil, or_false] at hr
  rcases hr with rfl | rfl <;> rfl
set_option maxHeartbeats 4000000 in
set_option maxRecDepth 100000 in
theorem gcb_Of.rows_calls (w : World) : Calls Try.prog 46 #[] w fun e w' => e = .returned (.agg gcb_Of.all.toArray) ∧ Below w.heap.size w w' := by
  go_enter Try.func46, Try.ntmps46
  refine wp_seq (wp_region_list ?_)
  refine alloc_event rfl 59 rfl 256 (by kernel_rfl) ?_
  intro g w1 cs hcs hg hb hbel hsz
  refine wpList_nil (wp_seq (wp_region_list ?_))
  refine builds_event 129 _ 0 129 (.pointer (some ⟨g, 0, none⟩)) (.agg gcb_Of.all.toArray) (by kernel_rfl) ?_
  rintro ⟨tm, df⟩ h1 h2 h3
  have hs := gcb_Of.rows_size
  have ho := gcb_Of.rows_one
  generalize hV : Value.agg gcb_Of.all.toArray = V at *
  refine block_store rfl rfl 59 (.tmp 0) (.tmp 129) rfl h1 V h2 hb (by rw [hcs, ← hV]; exact hs) (by rw [hcs]; kernel_rfl) ho ?_
  intro w2 hb2 hk2 hs2 hB2
  refine wpList_nil (wp_ret ?_)
  subst hV
  exact bodyPost_ret (v := .agg gcb_Of.all.toArray) (results_c1 rfl _ _ _ _ _ _ _ h1 hb2 Try.underlying59 rfl (by rw [hs]; kernel_rfl)) h3 ⟨rfl, hB2 _ _ hbel (by omega)⟩
theorem gcb_Of.cmp (f k c : Int) (W : World) : Calls Try.prog 48 #[.agg #[.int .i64 f, .int .i64 k], .int .i64 c] W fun e w' => e = .returned (.int .i64 (wrap64 (f - c))) ∧ Below W.heap.size W w' := by
  go_enter Try.func48, Try.ntmps48
  go_wp2
  go_ret
  exact ⟨by first | rfl | simp [wrap64], below_alloc (Below.refl _ _) _⟩
/-- What a search among n rows answers, of which S tells on which side each one is. -/
def gcb_Of.SPost (S : Nat → Int) (n : Nat) (w : World) (e : Ending) (w' : World) : Prop :=
  ∃ q : Nat, e = .returned (.tuple #[.int .i64 (q : Int), .bool (decide (q < n ∧ S q = 0))]) ∧ Below w.heap.size w w' ∧ q ≤ n ∧ ((∀ a b, a ≤ b → b < n → S b < 0 → S a < 0) → (∀ t, t < q → S t < 0) ∧ (∀ t, q ≤ t → t < n → 0 ≤ S t))
set_option maxHeartbeats 1000000 in
set_option maxRecDepth 100000 in
theorem gcb_Of.search (R : Nat → gcb_Of.Row) (S : Nat → Int) (g c n : Nat) (y : Int) (w : World) (hg : g < w.heap.size) (hc : ∀ j, j < n → ∀ (k : Nat) v, (gcb_Of.cells (R j))[k]? = some v → w.cell? ⟨g, j * 2 + k, none⟩ = some v) (hlen : n < 1000000)
    (hS : ∀ j, j < n → ∀ W : World, Calls Try.prog 48 #[.agg #[.int .i64 (R j).f, .int .i64 (R j).k], .int .i64 y] W fun e w' => e = .returned (.int .i64 (S j)) ∧ Below W.heap.size W w') :
    Calls Try.prog 47 #[.slice (some ⟨g, 0, none⟩) n c, .int .i64 y, .func (.func 48) #[] #[]] w (gcb_Of.SPost S n w) := by
  have eg : ∀ args w, (callFunc 48 args).run Try.prog w = .ok (.enter 48 args) w := enters_of Try.func48 (by kernel_rfl) rfl
  have HC := Aside0.mk hc
  have HSC := Aside0.mk hS
  have HG := Aside0.mk hg
  have HB0 := Aside0.mk (Below.refl w.heap.size w)
  clear hc hS hg
  go_enter Try.func47, Try.ntmps47
  go_wp2
  go_loopg [9, 10] n (fun kx s9 s10 wr => ∃ lo hi : Nat, s9 = .int .i64 lo ∧ s10 = .int .i64 hi ∧ lo ≤ hi ∧ hi ≤ n ∧ hi - lo ≤ kx ∧ Aside0 (Below w.heap.size w wr) ∧ Aside0 ((∀ a b, a ≤ b → b < n → S b < 0 → S a < 0) → (∀ t, t < lo → S t < 0) ∧ (∀ t, hi ≤ t → t < n → 0 ≤ S t)))
  case atStart => exact ⟨0, n, rfl, rfl, Nat.zero_le _, Nat.le_refl _, by omega, HB0, ⟨fun _ => ⟨fun t ht => absurd ht (Nat.not_lt_zero _), fun t h1 h2 => by omega⟩⟩⟩
  case round =>
    clear HB0
    obtain ⟨lo, hi, rfl, rfl, hlh, hin, hk, HB, I⟩ := hrel
    by_cases hlt : lo < hi
    · have cm : ∀ (k : Nat) v, (gcb_Of.cells (R ((lo + hi) / 2)))[k]? = some v → wr.cell? ⟨g, (lo + hi) / 2 * 2 + k, none⟩ = some v := fun k v h => (HB.out.cell (p := ⟨g, (lo + hi) / 2 * 2 + k, none⟩) HG.out).trans (HC.out _ (by omega) k v h)
      have hsm := HSC.out ((lo + hi) / 2) (by omega)
      rcases hv : R ((lo + hi) / 2) with ⟨rf, rk⟩
      rw [hv] at cm hsm
      have cm0 : wr.cell? ⟨g, (lo + hi) / 2 * 2, none⟩ = some (.int .i64 rf) := cm 0 _ rfl
      have cm1 : wr.cell? ⟨g, (lo + hi) / 2 * 2 + 1, none⟩ = some (.int .i64 rk) := cm 1 _ rfl
      clear hv cm
      have HSM := Aside0.mk hsm
      clear hsm
      generalize hsv : S ((lo + hi) / 2) = s at HSM
      have V := Aside0.mk hsv
      clear hsv
      by_cases h1 : s < 0
      · have HV := Aside0.mk h1
        have hb1 : decide (s < 0) = true := decide_eq_true h1
        clear h1
        go_wp2_with (go_at_fn 48; refine (HSM.out _).mono ?_; rintro e w2 ⟨rfl, hb2⟩; have n0_ := Aside0.mk (below_step HB.out hb2); clear HB hb2; have HB := n0_; clear n0_)
        go_roundg (hi - ((lo + hi) / 2 + 1))
        case measure => omega
        case rel =>
          refine ⟨(lo + hi) / 2 + 1, hi, by rw [show ((lo : Int) + (hi : Int)) / 2 + 1 = (((lo + hi) / 2 + 1 : Nat) : Int) by omega], rfl, by omega, hin, Nat.le_refl _, HB, ⟨fun hm => ⟨fun t ht => ?_, (I.out hm).2⟩⟩⟩
          exact hm t ((lo + hi) / 2) (by omega) (by omega) (by rw [V.out]; exact HV.out)
      · have HV := Aside0.mk h1
        have hb1 : decide (s < 0) = false := decide_eq_false h1
        clear h1
        go_wp2_with (go_at_fn 48; refine (HSM.out _).mono ?_; rintro e w2 ⟨rfl, hb2⟩; have n0_ := Aside0.mk (below_step HB.out hb2); clear HB hb2; have HB := n0_; clear n0_)
        go_roundg ((lo + hi) / 2 - lo)
        case measure => omega
        case rel =>
          refine ⟨lo, (lo + hi) / 2, rfl, by rw [show ((lo : Int) + (hi : Int)) / 2 = (((lo + hi) / 2 : Nat) : Int) by omega], by omega, by omega, Nat.le_refl _, HB, ⟨fun hm => ⟨(I.out hm).1, fun t ht htn => ?_⟩⟩⟩
          have h5 := HV.out
          rw [← V.out] at h5
          refine Int.not_lt.1 (fun h6 => absurd (hm ((lo + hi) / 2) t ht htn h6) (Int.not_lt.2 (Int.not_lt.1 (fun h7 => absurd h7 (by simpa using h5)))))
    · obtain rfl : hi = lo := by omega
      by_cases hcn : hi < n
      · have cm : ∀ (k : Nat) v, (gcb_Of.cells (R hi))[k]? = some v → wr.cell? ⟨g, hi * 2 + k, none⟩ = some v := fun k v h => (HB.out.cell (p := ⟨g, hi * 2 + k, none⟩) HG.out).trans (HC.out _ hcn k v h)
        have hsm := HSC.out hi hcn
        rcases hv : R hi with ⟨rf, rk⟩
        rw [hv] at cm hsm
        have cm0 : wr.cell? ⟨g, hi * 2, none⟩ = some (.int .i64 rf) := cm 0 _ rfl
        have cm1 : wr.cell? ⟨g, hi * 2 + 1, none⟩ = some (.int .i64 rk) := cm 1 _ rfl
        clear hv cm
        have HSM := Aside0.mk hsm
        clear hsm
        generalize hsv : S hi = s at HSM
        have V := Aside0.mk hsv
        clear hsv
        by_cases h1 : s = 0
        · subst h1
          go_wp2_with (go_at_fn 48; refine (HSM.out _).mono ?_; rintro e w2 ⟨rfl, hb2⟩; have n0_ := Aside0.mk (below_step HB.out hb2); clear HB hb2; have HB := n0_; clear n0_)
          go_ret2
          exact ⟨hi, by rw [decide_eq_true (show hi < n ∧ S hi = 0 from ⟨hcn, V.out⟩)]; rfl, HB.out, hin, I.out⟩
        · have hb1 : (s == 0) = false := beq_eq_false_iff_ne.2 h1
          have HV := Aside0.mk h1
          clear h1
          go_wp2_with (go_at_fn 48; refine (HSM.out _).mono ?_; rintro e w2 ⟨rfl, hb2⟩; have n0_ := Aside0.mk (below_step HB.out hb2); clear HB hb2; have HB := n0_; clear n0_)
          go_ret2
          exact ⟨hi, by rw [decide_eq_false (show ¬ (hi < n ∧ S hi = 0) from fun h => HV.out (V.out ▸ h.2))]; rfl, HB.out, hin, I.out⟩
      · go_wp2
        go_ret2
        exact ⟨hi, by rw [decide_eq_false (show ¬ (hi < n ∧ S hi = 0) from fun h => hcn h.1)]; rfl, HB.out, hin, I.out⟩
theorem gcb_Of.flat_at : ∀ (l : List gcb_Of.Row) (j k : Nat) (v : Value), j < l.length → (gcb_Of.cells (l.getD j gcb_Of.z))[k]? = some v → (l.flatMap gcb_Of.cells)[j * 2 + k]? = some v
  | [], j, k, v, h, _ => by simp at h
  | r :: l, 0, k, v, h, hk => by
    have hk4 : k < 2 := by
      have := (List.getElem?_eq_some_iff.1 hk).1
      simpa [gcb_Of.cells] using this
    rw [List.flatMap_cons, Nat.zero_mul, Nat.zero_add, List.getElem?_append_left (by simpa [gcb_Of.cells] using hk4)]
    exact hk
  | r :: l, j + 1, k, v, h, hk => by
    rw [List.flatMap_cons, List.getElem?_append_right (by simp [gcb_Of.cells]; omega)]
    have := gcb_Of.flat_at l j k v (by simpa using h) hk
    rw [show (j + 1) * 2 + k - (gcb_Of.cells r).length = j * 2 + k by simp [gcb_Of.cells]; omega]
    exact this
theorem gcb_Of.blk_cells (W : World) (g : Nat) (h : W.heap[g]? = some (.cells gcb_Of.all.toArray 59 (0, 0))) (j : Nat) (hj : j < 128) (k : Nat) (v : Value) (hk : (gcb_Of.cells (gcb_Of.row j))[k]? = some v) : W.cell? ⟨g, j * 2 + k, none⟩ = some v := by
  rw [blk_cell h]
  have := gcb_Of.flat_at gcb_Of.rowsL j k v hj hk
  simpa [gcb_Of.all] using this
theorem gcb_Of.row_facts : ∀ j, j < 128 → 0 ≤ (gcb_Of.row j).f ∧ (gcb_Of.row j).f ≤ 1000000 ∧ 0 ≤ (gcb_Of.row j).k ∧ (gcb_Of.row j).k ≤ 13 := by
  have h : ∀ j : Fin 128, 0 ≤ (gcb_Of.row j.val).f ∧ (gcb_Of.row j.val).f ≤ 1000000 ∧ 0 ≤ (gcb_Of.row j.val).k ∧ (gcb_Of.row j.val).k ≤ 13 := by decide +kernel
  exact fun j hj => h ⟨j, hj⟩
theorem gcb_Of.row_up : ∀ a b, a < b → b < 128 → (gcb_Of.row a).f < (gcb_Of.row b).f := by
  have h : ∀ b : Fin 128, ∀ a : Fin b.val, (gcb_Of.row a.val).f < (gcb_Of.row b.val).f := by decide +kernel
  exact fun a b h1 h2 => h ⟨b, h2⟩ ⟨a, h1⟩
/-- The row that tells a number's kind, by its place. -/
theorem gcb_Of.kd_at : ∀ (l : List gcb_Of.Row) (d c : Int) (m : Nat), m < l.length → (∀ t, t ≤ m → (l.getD t gcb_Of.z).f ≤ c) → (∀ t, m < t → t < l.length → c < (l.getD t gcb_Of.z).f) → gcb_Of.kd l d c = (l.getD m gcb_Of.z).k
  | [], d, c, m, hm, _, _ => by simp at hm
  | r :: l, d, c, 0, hm, h1, h2 => by
    have h3 : r.f ≤ c := h1 0 (Nat.le_refl _)
    unfold gcb_Of.kd
    rw [if_pos h3]
    cases l with
    | nil => rfl
    | cons s l =>
      have h4 : c < s.f := h2 1 (by omega) (by simp)
      unfold gcb_Of.kd
      rw [if_neg (by omega)]
      rfl
  | r :: l, d, c, m + 1, hm, h1, h2 => by
    have h3 : r.f ≤ c := h1 0 (Nat.zero_le _)
    unfold gcb_Of.kd
    rw [if_pos h3, gcb_Of.kd_at l r.k c m (by simpa using hm) (fun t ht => by simpa using h1 (t + 1) (by omega)) (fun t ht1 ht2 => by simpa using h2 (t + 1) (by omega) (by simpa using ht2))]
    simp
theorem gcb_Of.kind_calls (k c : Int) (w : World) (h1 : -9223372036854775808 ≤ c) (h2 : c ≤ 9223372036854775807) : Calls Try.prog 49 #[.int .i64 k, .int .i64 c] w fun e w' => e = .returned (.int .i64 (gcb_Of.kindV k c)) ∧ w = w' := by
  unfold gcb_Of.kindV
  by_cases g1 : c < 44032
  · rw [if_pos (.inl g1)]
    have b1 : decide (c < 44032) = true := decide_eq_true g1
    clear g1
    go_enter Try.func49, Try.ntmps49
    go_wp2
    go_ret
    exact ⟨rfl, rfl⟩
  · by_cases g2 : c > 55203
    · rw [if_pos (.inr g2)]
      have b1 : decide (c < 44032) = false := decide_eq_false g1
      have b2 : decide (55203 < c) = true := decide_eq_true g2
      clear g1 g2
      go_enter Try.func49, Try.ntmps49
      go_wp2
      go_ret
      exact ⟨rfl, rfl⟩
    · rw [if_neg (by omega)]
      have q1 : 44032 ≤ c := by omega
      have q2 : c ≤ 55203 := by omega
      have e1 : Int.tmod (c - 44032) 28 = (c - 44032) % 28 := Int.tmod_eq_emod_of_nonneg (by omega)
      have b1 : decide (c < 44032) = false := decide_eq_false g1
      have b2 : decide (55203 < c) = false := decide_eq_false g2
      rw [e1]
      clear e1 g1 g2
      by_cases g3 : (c - 44032) % 28 = 0
      · rw [if_pos g3]
        have b3 : ((c - 44032) % 28 == 0) = true := beq_iff_eq.2 g3
        clear g3
        go_enter Try.func49, Try.ntmps49
        go_wp2
        go_ret
        exact ⟨rfl, rfl⟩
      · rw [if_neg g3]
        have b3 : ((c - 44032) % 28 == 0) = false := beq_eq_false_iff_ne.2 g3
        clear g3
        go_enter Try.func49, Try.ntmps49
        go_wp2
        go_ret
        exact ⟨rfl, rfl⟩
set_option maxHeartbeats 4000000 in
set_option maxRecDepth 100000 in
theorem gcb_Of.calls (a0 : Int) (r : Int) (w : World) (h : gcb_Of.f a0 = some r) :
    Calls Try.prog 22 #[.int .i64 a0] w fun e w' => e = .returned (.int .i64 r) ∧ Below w.heap.size w w' := by
  have hrng : -9223372036854775808 ≤ a0 ∧ a0 ≤ 9223372036854775807 := by
    unfold gcb_Of.f at h
    split at h
    · assumption
    · cases h
  have hv : gcb_Of.val a0 = r := by
    unfold gcb_Of.f at h
    rw [if_pos hrng] at h
    exact Option.some.inj h
  clear h
  have HV := Aside0.mk hv
  clear hv
  have HSZ := Aside0.mk gcb_Of.rows_size
  have HONE := Aside0.mk gcb_Of.rows_one
  have HROWS := Aside0.mk gcb_Of.rows_calls
  have HBC := Aside0.mk gcb_Of.blk_cells
  have HSE := Aside0.mk (fun g W c (hg : g < W.heap.size) hc => gcb_Of.search gcb_Of.row (fun j => wrap64 ((gcb_Of.row j).f - a0)) g c 128 a0 W hg hc (by decide) (fun j _ W => gcb_Of.cmp _ _ _ _))
  have HFA := Aside0.mk gcb_Of.row_facts
  have HUP := Aside0.mk gcb_Of.row_up
  have HKD := Aside0.mk (gcb_Of.kd_at gcb_Of.rowsL 0 a0)
  generalize hall : gcb_Of.all = al at *
  go_enter Try.func22, Try.ntmps22
  go_wp2_with (first | (go_at_call 46; refine (HROWS.out _).mono ?_; rintro e w1 ⟨rfl, hb1⟩; have HB := Aside0.mk hb1; clear hb1) | ((with_reducible refine gate_dst (N := 3) rfl ?_); refine alloc_event rfl 59 rfl 256 (by kernel_rfl) ?_; intro g w2 cs hcs hg hb hbel hsz; have HG := Aside0.mk (show w.heap.size ≤ g by have := HB.out.size; omega); have n0_ := Aside0.mk (below_step HB.out hbel); clear HB; have HB := n0_; clear n0_; have HK1 := Aside0.mk hb; have HCS := Aside0.mk hcs; clear hcs hg hb hbel hsz) | ((with_reducible refine gate_store (t := 59) (p := 3) rfl ?_); refine block_store rfl rfl 59 (.tmp 3) (.tmp 6) rfl rfl (.agg al.toArray) rfl HK1.out (by rw [HCS.out]; exact HSZ.out) (by rw [HCS.out]; kernel_rfl) HONE.out ?_; intro w3 hb3 hk3 hs3 hB3; have n0_ := Aside0.mk (hB3 _ _ HB.out HG.out); clear HB; have HB := n0_; clear n0_; have HK2 := Aside0.mk hb3; clear HK1 hb3 hk3 hs3 hB3; have HGW := Aside0.mk (show g < w3.heap.size by obtain ⟨h_, _⟩ := Array.getElem?_eq_some_iff.1 HK2.out; exact h_)))
  refine (HSE.out g _ _ HGW.out (fun j hj k v h_ => HBC.out _ g HK2.out j hj k v h_)).mono ?_
  rintro e w4 ⟨q, rfl, hb4, hqn, hmq⟩
  have HC4 := Aside0.mk (fun j hj k v h_ => (hb4.cell (p := ⟨g, j * 2 + k, none⟩) HGW.out).trans (HBC.out _ g HK2.out j hj k v h_))
  have n0_ := Aside0.mk (below_step HB.out hb4)
  clear HB hb4 HK2
  have HB := n0_
  clear n0_
  have HMQ := Aside0.mk hmq
  clear hmq
  by_cases hneg : a0 < 0
  · obtain rfl : (0 : Int) = r := by rw [← HV.out]; unfold gcb_Of.val; rw [if_pos hneg]
    have hb0 : decide (a0 < 0) = true := decide_eq_true hneg
    clear HV hneg HMQ
    generalize decide (q < 128 ∧ (fun j => wrap64 ((gcb_Of.row j).f - a0)) q = 0) = bb
    cases bb
    · go_wp2
      go_ret
      exact ⟨rfl, HB.out⟩
    · go_wp2
      go_ret
      exact ⟨rfl, HB.out⟩
  · have hS : ∀ t, t < 128 → wrap64 ((gcb_Of.row t).f - a0) = (gcb_Of.row t).f - a0 := fun t ht => by
      have := HFA.out t ht
      unfold wrap64
      omega
    have hmono := HMQ.out (fun a b hab hb hsb => by
      have e1 := hS a (by omega)
      have e2 := hS b hb
      simp only [e1, e2] at hsb ⊢
      by_cases e : a = b
      · subst e; exact hsb
      · have := HUP.out a b (by omega) hb
        omega)
    obtain ⟨m, hm, hat, hm1, hm2⟩ : ∃ m : Nat, m < 128 ∧ (m = if q < 128 ∧ wrap64 ((gcb_Of.row q).f - a0) = 0 then q else q - 1) ∧ ((q < 128 ∧ wrap64 ((gcb_Of.row q).f - a0) = 0) ∨ 1 ≤ q) ∧ ((∀ t, t ≤ m → (gcb_Of.row t).f ≤ a0) ∧ (∀ t, m < t → t < 128 → a0 < (gcb_Of.row t).f)) := by
      obtain ⟨g1, g2⟩ := hmono
      by_cases hb : q < 128 ∧ wrap64 ((gcb_Of.row q).f - a0) = 0
      · refine ⟨q, hb.1, by rw [if_pos hb], .inl hb, fun t ht => ?_, fun t ht1 ht2 => ?_⟩
        · have e := hS q hb.1
          by_cases h : t = q
          · subst h; omega
          · have := HUP.out t q (by omega) hb.1
            omega
        · have e := hS q hb.1
          have := HUP.out q t ht1 ht2
          omega
      · have hq1 : 1 ≤ q := by
          refine Nat.one_le_iff_ne_zero.2 (fun h0 => hb ?_)
          subst h0
          have e0 : (gcb_Of.row 0).f = 0 := rfl
          have e := hS 0 (by omega)
          have := g2 0 (Nat.le_refl _) (by omega)
          simp only [e] at this
          exact ⟨by omega, by omega⟩
        refine ⟨q - 1, by omega, by rw [if_neg hb], .inr hq1, fun t ht => ?_, fun t ht1 ht2 => ?_⟩
        · have e := hS t (by omega)
          have := g1 t (by omega)
          simp only [e] at this
          omega
        · have e := hS t ht2
          have h3 := g2 t (by omega) ht2
          simp only [e] at h3
          by_cases h : t = q
          · subst h
            have : ¬ (wrap64 ((gcb_Of.row t).f - a0) = 0) := fun h => hb ⟨ht2, h⟩
            omega
          · have e4 := hS q (by omega)
            have h4 := g2 q (Nat.le_refl _) (by omega)
            simp only [e4] at h4
            have := HUP.out q t (by omega) ht2
            omega
    have hk : gcb_Of.kd gcb_Of.rowsL 0 a0 = (gcb_Of.row m).k := HKD.out m hm hm2.1 hm2.2
    have hcm : w4.cell? ⟨g, m * 2 + 1, none⟩ = some (.int .i64 (gcb_Of.row m).k) := HC4.out m hm 1 _ rfl
    have hvr : r = gcb_Of.kindV (gcb_Of.row m).k a0 := by
      rw [← HV.out, ← hk]; unfold gcb_Of.val; rw [if_neg hneg]
    clear HV HMQ HKD HFA HUP hmono hm2 hS HC4 hk
    have hb0 : decide (a0 < 0) = false := decide_eq_false hneg
    have ha0 : 0 ≤ a0 := Int.not_lt.1 hneg
    clear hneg
    generalize (gcb_Of.row m).k = kk at *
    have HVR := Aside0.mk hvr
    clear hvr
    by_cases hb : q < 128 ∧ wrap64 ((gcb_Of.row q).f - a0) = 0
    · rw [if_pos hb] at hat
      rw [show decide (q < 128 ∧ (fun j => wrap64 ((gcb_Of.row j).f - a0)) q = 0) = true from decide_eq_true hb]
      subst hat
      clear hb hm1
      go_wp2_with (go_at_call 49; refine (gcb_Of.kind_calls _ _ _ hrng.1 hrng.2).mono ?_; rintro e w5 ⟨rfl, rfl⟩)
      go_ret
      exact ⟨by rw [HVR.out]; rfl, HB.out⟩
    · rw [if_neg hb] at hat
      have hq1 : 1 ≤ q := by
        rcases hm1 with h | h
        · exact absurd h hb
        · exact h
      rw [show decide (q < 128 ∧ (fun j => wrap64 ((gcb_Of.row j).f - a0)) q = 0) = false from decide_eq_false hb]
      obtain rfl : q = m + 1 := by omega
      clear hb hm1 hat hq1
      have hmm : (((m + 1 : Nat) : Int) - 1) = (m : Int) := by omega
      go_wp2_with (go_at_call 49; refine (gcb_Of.kind_calls _ _ _ hrng.1 hrng.2).mono ?_; rintro e w5 ⟨rfl, rfl⟩)
      go_ret
      exact ⟨by rw [HVR.out]; rfl, HB.out⟩
end


-- NOT PRINTED: function 52 (gcb_edges)

/-! ### cmp_isNaN_int: function 74 -/
def cmp_isNaN_int.f (a0 : Int) : Option (Bool) := some (a0 != a0)
set_option maxHeartbeats 8000000 in
set_option maxRecDepth 100000 in
theorem cmp_isNaN_int.calls (a0 : Int) (r : Bool) (w : World) (h : cmp_isNaN_int.f a0 = some r) :
    Calls Try.prog 74 #[.int .i64 a0] w fun e w' => e = .returned (.bool r) ∧ Drawn0 w w' := by
  have H : (some (a0 != a0)) = some r := h
  clear h
  obtain rfl := Option.some.inj H
  go_enter Try.func74, Try.ntmps74
  go_wp2
  go_ret
  exact ⟨by first | rfl | (simp; done) | (simp [*]; done), by repeat (first | exact Drawn0.refl _ | apply Drawn0.step)⟩

/-! ### cmp_Less_int: function 67 -/
def cmp_Less_int.f (a0 : Int) (a1 : Int) : Option (Bool) := (cmp_isNaN_int.f a0).bind fun t101 => (if t101 = true then ((cmp_isNaN_int.f a1).bind fun t102 => (if t102 = true then (some (decide (a0 < a1))) else (some true))) else (some (decide (a0 < a1))))
set_option maxHeartbeats 8000000 in
set_option maxRecDepth 100000 in
theorem cmp_Less_int.calls (a0 : Int) (a1 : Int) (r : Bool) (w : World) (h : cmp_Less_int.f a0 a1 = some r) :
    Calls Try.prog 67 #[.int .i64 a0, .int .i64 a1] w fun e w' => e = .returned (.bool r) ∧ Drawn0 w w' := by
  have H : ((cmp_isNaN_int.f a0).bind fun t101 => (if t101 = true then ((cmp_isNaN_int.f a1).bind fun t102 => (if t102 = true then (some (decide (a0 < a1))) else (some true))) else (some (decide (a0 < a1))))) = some r := h
  clear h
  replace H := Option.bind_eq_some_iff.mp H
  obtain ⟨t101, A30, H⟩ := H
  replace H : (if t101 = true then ((cmp_isNaN_int.f a1).bind fun t102 => (if t102 = true then (some (decide (a0 < a1))) else (some true))) else (some (decide (a0 < a1)))) = some r := H
  have A3 := Aside0.mk A30
  clear A30
  by_cases c4 : t101 = true
  · subst c4
    have H1 : ((cmp_isNaN_int.f a1).bind fun t102 => (if t102 = true then (some (decide (a0 < a1))) else (some true))) = some r := by rw [if_pos rfl] at H; exact H
    clear H
    have H := H1
    clear H1
    replace H := Option.bind_eq_some_iff.mp H
    obtain ⟨t102, A50, H⟩ := H
    replace H : (if t102 = true then (some (decide (a0 < a1))) else (some true)) = some r := H
    have A5 := Aside0.mk A50
    clear A50
    by_cases c6 : t102 = true
    · subst c6
      have H1 : (some (decide (a0 < a1))) = some r := by rw [if_pos rfl] at H; exact H
      clear H
      have H := H1
      clear H1
      obtain rfl := Option.some.inj H
      go_enter Try.func67, Try.ntmps67
      go_wp2_with (first | ((with_reducible refine gate_callee (f := 74) rfl ?_); refine goesL_ (some 6) rfl rfl Try.func74 (by kernel_rfl) rfl #[.int .i64 a0] rfl (by (try simp only [List.map_toArray, List.map_cons, List.map_nil]); first | done | rfl | (simp only [List.length_drop, List.length_take]; rfl)) ?_; (with_reducible refine (cmp_isNaN_int.calls a0 true _ A3.out).mono ?_); rintro e w' ⟨rfl, ⟨nd, rfl⟩⟩; refine ⟨_, rfl, ?_⟩) | (go_at_call 74; (with_reducible refine (cmp_isNaN_int.calls a1 true _ A5.out).mono ?_); rintro e w' ⟨rfl, ⟨nd, rfl⟩⟩))
      go_ret
      exact ⟨by first | rfl | (simp; done) | (simp [*]; done), by repeat (first | exact Drawn0.refl _ | apply Drawn0.step)⟩
    · replace c6 := Bool.eq_false_iff.mpr c6
      subst c6
      have H1 : (some true) = some r := by rw [if_neg (show ¬ (false = true) by decide)] at H; exact H
      clear H
      have H := H1
      clear H1
      obtain rfl := Option.some.inj H
      go_enter Try.func67, Try.ntmps67
      go_wp2_with (first | ((with_reducible refine gate_callee (f := 74) rfl ?_); refine goesL_ (some 6) rfl rfl Try.func74 (by kernel_rfl) rfl #[.int .i64 a0] rfl (by (try simp only [List.map_toArray, List.map_cons, List.map_nil]); first | done | rfl | (simp only [List.length_drop, List.length_take]; rfl)) ?_; (with_reducible refine (cmp_isNaN_int.calls a0 true _ A3.out).mono ?_); rintro e w' ⟨rfl, ⟨nd, rfl⟩⟩; refine ⟨_, rfl, ?_⟩) | (go_at_call 74; (with_reducible refine (cmp_isNaN_int.calls a1 false _ A5.out).mono ?_); rintro e w' ⟨rfl, ⟨nd, rfl⟩⟩))
      go_ret
      exact ⟨by first | rfl | (simp; done) | (simp [*]; done), by repeat (first | exact Drawn0.refl _ | apply Drawn0.step)⟩
  · replace c4 := Bool.eq_false_iff.mpr c4
    subst c4
    have H1 : (some (decide (a0 < a1))) = some r := by rw [if_neg (show ¬ (false = true) by decide)] at H; exact H
    clear H
    have H := H1
    clear H1
    obtain rfl := Option.some.inj H
    go_enter Try.func67, Try.ntmps67
    go_wp2_with (first | ((with_reducible refine gate_callee (f := 74) rfl ?_); refine goesL_ (some 6) rfl rfl Try.func74 (by kernel_rfl) rfl #[.int .i64 a0] rfl (by (try simp only [List.map_toArray, List.map_cons, List.map_nil]); first | done | rfl | (simp only [List.length_drop, List.length_take]; rfl)) ?_; (with_reducible refine (cmp_isNaN_int.calls a0 false _ A3.out).mono ?_); rintro e w' ⟨rfl, ⟨nd, rfl⟩⟩; refine ⟨_, rfl, ?_⟩))
    go_ret
    exact ⟨by first | rfl | (simp; done) | (simp [*]; done), by repeat (first | exact Drawn0.refl _ | apply Drawn0.step)⟩

/-! ### slices_isNaN_int: function 68 -/
def slices_isNaN_int.f (a0 : Int) : Option (Bool) := some (a0 != a0)
set_option maxHeartbeats 8000000 in
set_option maxRecDepth 100000 in
theorem slices_isNaN_int.calls (a0 : Int) (r : Bool) (w : World) (h : slices_isNaN_int.f a0 = some r) :
    Calls Try.prog 68 #[.int .i64 a0] w fun e w' => e = .returned (.bool r) ∧ Drawn0 w w' := by
  have H : (some (a0 != a0)) = some r := h
  clear h
  obtain rfl := Option.some.inj H
  go_enter Try.func68, Try.ntmps68
  go_wp2
  go_ret
  exact ⟨by first | rfl | (simp; done) | (simp [*]; done), by repeat (first | exact Drawn0.refl _ | apply Drawn0.step)⟩

/-! ### slices_BinarySearch_int_int: function 53 -/
def slices_BinarySearch_int_int.l0 : Nat → List Int → Int → Int → Int → Int → Option (Int × Bool)
  | 0, _, _, _, _, _ => none
  | k + 1, x0, x1, x6, x7, x8 => if x7 < x8 then (if 0 ≤ (wrap64 ((IntKind.u64.wrap (wrap64 (x7 + x8))) / 2)) then (if (wrap64 ((IntKind.u64.wrap (wrap64 (x7 + x8))) / 2)) < (x0.length : Int) then ((cmp_Less_int.f (rd x0 (wrap64 ((IntKind.u64.wrap (wrap64 (x7 + x8))) / 2))) x1).bind fun t104 => (if t104 = true then (slices_BinarySearch_int_int.l0 k x0 x1 x6 (wrap64 ((wrap64 ((IntKind.u64.wrap (wrap64 (x7 + x8))) / 2)) + 1)) x8) else (slices_BinarySearch_int_int.l0 k x0 x1 x6 x7 (wrap64 ((IntKind.u64.wrap (wrap64 (x7 + x8))) / 2))))) else (none)) else (none)) else (if x7 < x6 then (if 0 ≤ x7 then (if x7 < (x0.length : Int) then (if (rd x0 x7) = x1 then (some (x7, true)) else ((slices_isNaN_int.f (rd x0 x7)).bind fun t107 => (if t107 = true then ((slices_isNaN_int.f x1).bind fun t108 => (some (x7, t108))) else (some (x7, false))))) else (none)) else (none)) else (some (x7, false)))
def slices_BinarySearch_int_int.f (k : Nat) (l0 : List Int) (a1 : Int) : Option (Int × Bool) := slices_BinarySearch_int_int.l0 k l0 a1 (l0.length : Int) 0 (l0.length : Int)
theorem slices_BinarySearch_int_int.mono_l : ∀ k, (∀ y0 y1 y2 y3 y4, LeO (slices_BinarySearch_int_int.l0 k y0 y1 y2 y3 y4) (slices_BinarySearch_int_int.l0 (k + 1) y0 y1 y2 y3 y4))
  | 0 => fun _ _ _ _ _ r h => by simp [slices_BinarySearch_int_int.l0] at h
  | k + 1 => by
    have ih0 := slices_BinarySearch_int_int.mono_l k
    · intro y0 y1 y2 y3 y4
      unfold slices_BinarySearch_int_int.l0
      repeat' first
      | (with_reducible exact ih0 _ _ _ _ _)
      | (with_reducible exact LeO.refl _)
      | (with_reducible exact LeO.none _)
      | (with_reducible refine LeO.ite ?_ ?_)
      | (with_reducible refine LeO.bind ?_ (fun _ => ?_))
      | exact ih0 _ _ _ _ _
      | exact LeO.none _
      | refine LeO.ite ?_ ?_
      | refine LeO.bind ?_ (fun _ => ?_)
theorem slices_BinarySearch_int_int.mono : ∀ a0 a1 k, LeO (slices_BinarySearch_int_int.f k a0 a1) (slices_BinarySearch_int_int.f (k + 1) a0 a1) := by
  intro a0 a1 k
  have ih0 := slices_BinarySearch_int_int.mono_l k
  unfold slices_BinarySearch_int_int.f
  repeat' first
      | (with_reducible exact ih0 _ _ _ _ _)
      | (with_reducible exact LeO.refl _)
      | (with_reducible exact LeO.none _)
      | (with_reducible refine LeO.ite ?_ ?_)
      | (with_reducible refine LeO.bind ?_ (fun _ => ?_))
      | exact ih0 _ _ _ _ _
      | exact LeO.none _
      | refine LeO.ite ?_ ?_
      | refine LeO.bind ?_ (fun _ => ?_)
set_option maxHeartbeats 8000000 in
set_option maxRecDepth 100000 in
theorem slices_BinarySearch_int_int.calls (k : Nat) (A0 : Option Addr) (c0 : Nat) (l0 : List Int) (a1 : Int) (r1 : Int) (r2 : Bool) (w : World) (hr0 : Kd.C (Kd.int .i64) w A0 l0.length l0) (hc0 : l0.length ≤ c0) (h : slices_BinarySearch_int_int.f k l0 a1 = some (r1, r2)) :
    Calls Try.prog 53 #[.slice A0 l0.length c0, .int .i64 a1] w fun e w' => e = .returned (.tuple #[.int .i64 r1, .bool r2]) ∧ Drawn0 w w' := by
  have HR0 := Aside0.mk hr0
  have HC0 := Aside0.mk hc0
  clear hr0 hc0
  have H : (slices_BinarySearch_int_int.l0 k l0 a1 (l0.length : Int) 0 (l0.length : Int)) = some (r1, r2) := h
  clear h
  have H' := Aside0.mk H
  clear H
  go_enter Try.func53, Try.ntmps53
  go_wp2
  go_loopg [7, 8] k (fun kq v7 v8 w' => ∃ (x7_1 : Int) (x8_1 : Int), v7 = .int .i64 x7_1 ∧ v8 = .int .i64 x8_1 ∧ Aside0 (slices_BinarySearch_int_int.l0 kq l0 a1 (l0.length : Int) x7_1 x8_1 = some (r1, r2)) ∧ Aside0 (kq ≤ k) ∧ Drawn0 w w')
  case atStart => exact ⟨(0), ((l0.length : Int)), (by first | rfl | (simp; done) | (simp [*]; done)), (by first | rfl | (simp; done) | (simp [*]; done)), H', ⟨Nat.le_refl _⟩, by repeat (first | exact Drawn0.refl _ | apply Drawn0.step)⟩
  case round =>
    clear H'
    try clear p2
    obtain ⟨x7_1, x8_1, rfl, rfl, HA, HK1, ⟨m1, rfl⟩⟩ := hrel
    cases gk with
    | zero => exact absurd HA.out (by simp [slices_BinarySearch_int_int.l0])
    | succ k1 =>
      have H := HA.out
      clear HA
      simp only [slices_BinarySearch_int_int.l0] at H
      by_cases c3 : x7_1 < x8_1
      · rw [if_pos c3] at H
        have c3b0 : decide (x7_1 < x8_1) = true := decide_eq_true c3
        clear c3
        obtain ⟨ji4, hji4⟩ : ∃ j_ : Int, (wrap64 ((IntKind.u64.wrap (wrap64 (x7_1 + x8_1))) / 2)) = j_ := ⟨_, rfl⟩
        replace H : (if 0 ≤ (ji4) then (if (ji4) < (l0.length : Int) then ((cmp_Less_int.f (rd l0 (ji4)) a1).bind fun t104 => (if t104 = true then (slices_BinarySearch_int_int.l0 k1 l0 a1 (l0.length : Int) (wrap64 ((ji4) + 1)) x8_1) else (slices_BinarySearch_int_int.l0 k1 l0 a1 (l0.length : Int) x7_1 ji4))) else (none)) else (none)) = some (r1, r2) := by first | (rw [hji4] at H; exact H) | (simp only [hji4] at H ⊢; exact H)
        have hji4w : (IntKind.i64.wrap ((IntKind.u64.wrap (wrap64 (x7_1 + x8_1))) / 2)) = ji4 := (i64_w _).trans hji4
        by_cases c5 : 0 ≤ (ji4)
        · rw [if_pos c5] at H
          have c5b0 : decide (0 ≤ (ji4)) = true := decide_eq_true c5
          clear c5
          by_cases c6 : (ji4) < (l0.length : Int)
          · rw [if_pos c6] at H
            have c6b0 : decide ((ji4) < (l0.length : Int)) = true := decide_eq_true c6
            clear c6
            replace H := Option.bind_eq_some_iff.mp H
            obtain ⟨t104, A70, H⟩ := H
            replace H : (if t104 = true then (slices_BinarySearch_int_int.l0 k1 l0 a1 (l0.length : Int) (wrap64 ((ji4) + 1)) x8_1) else (slices_BinarySearch_int_int.l0 k1 l0 a1 (l0.length : Int) x7_1 ji4)) = some (r1, r2) := H
            have A7 := Aside0.mk A70
            clear A70
            by_cases c8 : t104 = true
            · subst c8
              have H1 : (slices_BinarySearch_int_int.l0 k1 l0 a1 (l0.length : Int) (wrap64 ((ji4) + 1)) x8_1) = some (r1, r2) := by rw [if_pos rfl] at H; exact H
              clear H
              have H := H1
              clear H1
              have H' := Aside0.mk H
              clear H
              have p103 : 0 ≤ ((ji4) : Int) := of_decide_eq_true (by first | (with_reducible assumption) | assumption)
              have q103 : (ji4) < (l0.length : Int) := of_decide_eq_true (by first | (with_reducible assumption) | assumption)
              obtain ⟨ad103, e103, hx103_0⟩ := Kd.at_int HR0.out (ji4) p103 q103
              cases e103
              replace p103 := eq_true p103
              replace q103 := eq_true q103
              go_wp2_with (first | ((with_reducible refine gate_callee (f := 67) rfl ?_); refine goesL_ (some 27) rfl rfl Try.func67 (by kernel_rfl) rfl #[.int .i64 (rd l0 (ji4)), .int .i64 a1] rfl (by (try simp only [List.map_toArray, List.map_cons, List.map_nil]); first | done | (simp only [hji4]; rfl) | rfl | (simp only [List.length_drop, List.length_take]; rfl)) ?_; (with_reducible refine (cmp_Less_int.calls (rd l0 (ji4)) a1 true _ A7.out).mono ?_); rintro e w' ⟨rfl, ⟨nd, rfl⟩⟩; refine ⟨_, rfl, ?_⟩))
              go_roundg k1
              case measure => have := HK1.out; omega
              case rel => exact ⟨(wrap64 ((ji4) + 1)), (x8_1), (by first | rfl | (simp; done) | (simp only [← hji4] <;> (first | rfl | simp)) | (simp [*]; done)), (by first | rfl | (simp; done) | (simp [*]; done)), H', ⟨by have := HK1.out; omega⟩, by repeat (first | exact Drawn0.refl _ | apply Drawn0.step)⟩
            · replace c8 := Bool.eq_false_iff.mpr c8
              subst c8
              have H1 : (slices_BinarySearch_int_int.l0 k1 l0 a1 (l0.length : Int) x7_1 ji4) = some (r1, r2) := by rw [if_neg (show ¬ (false = true) by decide)] at H; exact H
              clear H
              have H := H1
              clear H1
              have H' := Aside0.mk H
              clear H
              have p103 : 0 ≤ ((ji4) : Int) := of_decide_eq_true (by first | (with_reducible assumption) | assumption)
              have q103 : (ji4) < (l0.length : Int) := of_decide_eq_true (by first | (with_reducible assumption) | assumption)
              obtain ⟨ad103, e103, hx103_0⟩ := Kd.at_int HR0.out (ji4) p103 q103
              cases e103
              replace p103 := eq_true p103
              replace q103 := eq_true q103
              go_wp2_with (first | ((with_reducible refine gate_callee (f := 67) rfl ?_); refine goesL_ (some 27) rfl rfl Try.func67 (by kernel_rfl) rfl #[.int .i64 (rd l0 (ji4)), .int .i64 a1] rfl (by (try simp only [List.map_toArray, List.map_cons, List.map_nil]); first | done | (simp only [hji4]; rfl) | rfl | (simp only [List.length_drop, List.length_take]; rfl)) ?_; (with_reducible refine (cmp_Less_int.calls (rd l0 (ji4)) a1 false _ A7.out).mono ?_); rintro e w' ⟨rfl, ⟨nd, rfl⟩⟩; refine ⟨_, rfl, ?_⟩))
              go_roundg k1
              case measure => have := HK1.out; omega
              case rel => exact ⟨(x7_1), (ji4), (by first | rfl | (simp; done) | (simp [*]; done)), (by first | rfl | (simp; done) | (simp only [← hji4] <;> (first | rfl | simp)) | (simp [*]; done)), H', ⟨by have := HK1.out; omega⟩, by repeat (first | exact Drawn0.refl _ | apply Drawn0.step)⟩
          · rw [if_neg c6] at H
            exact absurd H (by simp)
        · rw [if_neg c5] at H
          exact absurd H (by simp)
      · rw [if_neg c3] at H
        have c3b0 : decide (x7_1 < x8_1) = false := decide_eq_false c3
        clear c3
        by_cases c9 : x7_1 < (l0.length : Int)
        · rw [if_pos c9] at H
          have c9b0 : decide (x7_1 < (l0.length : Int)) = true := decide_eq_true c9
          clear c9
          by_cases c10 : 0 ≤ x7_1
          · rw [if_pos c10] at H
            have c10b0 : decide (0 ≤ x7_1) = true := decide_eq_true c10
            clear c10
            by_cases c11 : x7_1 < (l0.length : Int)
            · rw [if_pos c11] at H
              have c11b0 : decide (x7_1 < (l0.length : Int)) = true := decide_eq_true c11
              clear c11
              by_cases c12 : (rd l0 x7_1) = a1
              · rw [if_pos c12] at H
                have c12b0 : ((rd l0 x7_1) == a1) = true := beq_iff_eq.mpr c12
                have c12b1 : ((rd l0 x7_1) != a1) = false := bne_eq_false_iff_eq.mpr c12
                clear c12
                simp only [Option.some.injEq, Prod.mk.injEq] at H
                obtain ⟨rfl, rfl⟩ := H
                have p105 : 0 ≤ (x7_1 : Int) := of_decide_eq_true (by first | (with_reducible assumption) | assumption)
                have q105 : x7_1 < (l0.length : Int) := of_decide_eq_true (by first | (with_reducible assumption) | assumption)
                obtain ⟨ad105, e105, hx105_0⟩ := Kd.at_int HR0.out x7_1 p105 q105
                cases e105
                replace p105 := eq_true p105
                replace q105 := eq_true q105
                go_wp2
                go_ret2
                exact ⟨by first | rfl | (simp; done) | (simp [*]; done), by repeat (first | exact Drawn0.refl _ | apply Drawn0.step)⟩
              · rw [if_neg c12] at H
                have c12b0 : ((rd l0 x7_1) == a1) = false := beq_eq_false_iff_ne.mpr c12
                have c12b1 : ((rd l0 x7_1) != a1) = true := bne_iff_ne.mpr c12
                replace H := Option.bind_eq_some_iff.mp H
                obtain ⟨t107, A130, H⟩ := H
                replace H : (if t107 = true then ((slices_isNaN_int.f a1).bind fun t108 => (some (x7_1, t108))) else (some (x7_1, false))) = some (r1, r2) := H
                have A13 := Aside0.mk A130
                clear A130
                by_cases c14 : t107 = true
                · subst c14
                  have H1 : ((slices_isNaN_int.f a1).bind fun t108 => (some (x7_1, t108))) = some (r1, r2) := by rw [if_pos rfl] at H; exact H
                  clear H
                  have H := H1
                  clear H1
                  replace H := Option.bind_eq_some_iff.mp H
                  obtain ⟨t108, A150, H⟩ := H
                  replace H : (some (x7_1, t108)) = some (r1, r2) := H
                  have A15 := Aside0.mk A150
                  clear A150
                  simp only [Option.some.injEq, Prod.mk.injEq] at H
                  obtain ⟨rfl, rfl⟩ := H
                  have p105 : 0 ≤ (x7_1 : Int) := of_decide_eq_true (by first | (with_reducible assumption) | assumption)
                  have q105 : x7_1 < (l0.length : Int) := of_decide_eq_true (by first | (with_reducible assumption) | assumption)
                  obtain ⟨ad105, e105, hx105_0⟩ := Kd.at_int HR0.out x7_1 p105 q105
                  cases e105
                  replace p105 := eq_true p105
                  replace q105 := eq_true q105
                  have p106 : 0 ≤ (x7_1 : Int) := of_decide_eq_true (by first | (with_reducible assumption) | assumption)
                  have q106 : x7_1 < (l0.length : Int) := of_decide_eq_true (by first | (with_reducible assumption) | assumption)
                  obtain ⟨ad106, e106, hx106_0⟩ := Kd.at_int HR0.out x7_1 p106 q106
                  obtain rfl : ad105 = ad106 := (by injection e106)
                  replace p106 := eq_true p106
                  replace q106 := eq_true q106
                  go_wp2_with (first | (go_at_call 68; (with_reducible refine (slices_isNaN_int.calls (rd l0 x7_1) true _ A13.out).mono ?_); rintro e w' ⟨rfl, ⟨nd, rfl⟩⟩) | (go_at_call 68; (with_reducible refine (slices_isNaN_int.calls a1 t108 _ A15.out).mono ?_); rintro e w' ⟨rfl, ⟨nd, rfl⟩⟩))
                  go_ret2
                  exact ⟨by first | rfl | (simp; done) | (simp [*]; done), by repeat (first | exact Drawn0.refl _ | apply Drawn0.step)⟩
                · replace c14 := Bool.eq_false_iff.mpr c14
                  subst c14
                  have H1 : (some (x7_1, false)) = some (r1, r2) := by rw [if_neg (show ¬ (false = true) by decide)] at H; exact H
                  clear H
                  have H := H1
                  clear H1
                  simp only [Option.some.injEq, Prod.mk.injEq] at H
                  obtain ⟨rfl, rfl⟩ := H
                  have p105 : 0 ≤ (x7_1 : Int) := of_decide_eq_true (by first | (with_reducible assumption) | assumption)
                  have q105 : x7_1 < (l0.length : Int) := of_decide_eq_true (by first | (with_reducible assumption) | assumption)
                  obtain ⟨ad105, e105, hx105_0⟩ := Kd.at_int HR0.out x7_1 p105 q105
                  cases e105
                  replace p105 := eq_true p105
                  replace q105 := eq_true q105
                  have p106 : 0 ≤ (x7_1 : Int) := of_decide_eq_true (by first | (with_reducible assumption) | assumption)
                  have q106 : x7_1 < (l0.length : Int) := of_decide_eq_true (by first | (with_reducible assumption) | assumption)
                  obtain ⟨ad106, e106, hx106_0⟩ := Kd.at_int HR0.out x7_1 p106 q106
                  obtain rfl : ad105 = ad106 := (by injection e106)
                  replace p106 := eq_true p106
                  replace q106 := eq_true q106
                  go_wp2_with (first | (go_at_call 68; (with_reducible refine (slices_isNaN_int.calls (rd l0 x7_1) false _ A13.out).mono ?_); rintro e w' ⟨rfl, ⟨nd, rfl⟩⟩))
                  go_ret2
                  exact ⟨by first | rfl | (simp; done) | (simp [*]; done), by repeat (first | exact Drawn0.refl _ | apply Drawn0.step)⟩
            · rw [if_neg c11] at H
              exact absurd H (by simp)
          · rw [if_neg c10] at H
            exact absurd H (by simp)
        · rw [if_neg c9] at H
          have c9b0 : decide (x7_1 < (l0.length : Int)) = false := decide_eq_false c9
          clear c9
          simp only [Option.some.injEq, Prod.mk.injEq] at H
          obtain ⟨rfl, rfl⟩ := H
          go_wp2
          go_ret2
          exact ⟨by first | rfl | (simp; done) | (simp [*]; done), by repeat (first | exact Drawn0.refl _ | apply Drawn0.step)⟩

/-! ### gcb_Pict: function 24: by hand -/
def gcb_Pict.L : List Int := [169, 170, 174, 175, 8252, 8253, 8265, 8266, 8482, 8483, 8505, 8506, 8596, 8602, 8617, 8619, 8986, 8988, 9000, 9001, 9167, 9168, 9193, 9204, 9208, 9211, 9410, 9411, 9642, 9644, 9654, 9655, 9664, 9665, 9723, 9727, 9728, 9734, 9735, 9747, 9748, 9862, 9872, 9990, 9992, 10003, 10004, 10005, 10006, 10007, 10013, 10014, 10017, 10018, 10024, 10025, 10035, 10037, 10052, 10053, 10055, 10056, 10060, 10061, 10062, 10063, 10067, 10070, 10071, 10072, 10083, 10088, 10133, 10136, 10145, 10146, 10160, 10161, 10175, 10176, 10548, 10550, 11013, 11016, 11035, 11037, 11088, 11089, 11093, 11094, 12336, 12337, 12349, 12350, 12951, 12952, 12953, 12954, 126976, 127232, 127245, 127248, 127279, 127280, 127340, 127346, 127358, 127360, 127374, 127375, 127377, 127387, 127405, 127462, 127489, 127504, 127514, 127515, 127535, 127536, 127538, 127547, 127548, 127552, 127561, 127995, 128000, 128318, 128326, 128592, 128640, 128768, 128884, 128896, 128981, 129024, 129036, 129040, 129096, 129104, 129114, 129120, 129160, 129168, 129198, 129280, 129292, 129339, 129340, 129350, 129351, 129792, 130048, 131070]
/-- Does an odd number of ends stand at a number, or ahead of it? -/
def gcb_Pict.oddIn (l : List Int) (c : Int) : Bool := l.countP (fun x => decide (x ≤ c)) % 2 == 1
def gcb_Pict.f (a0 : Int) : Option Bool := some (gcb_Pict.oddIn gcb_Pict.L a0)
section
open Go.Proofs.YtgbkfjdkejjmpaaH
theorem gcb_Pict.mid (lo hi : Nat) (h : lo + hi < 2000000) : wrap64 ((IntKind.u64.wrap (wrap64 ((lo : Int) + (hi : Int)))) / 2) = (((lo + hi) / 2 : Nat) : Int) := by
  have e1 : wrap64 ((lo : Int) + (hi : Int)) = ((lo + hi : Nat) : Int) := by unfold wrap64; omega
  rw [e1, show IntKind.u64.wrap ((lo + hi : Nat) : Int) = ((lo + hi : Nat) : Int) from by rw [IntKind.wrap_u64]; omega]
  unfold wrap64
  omega
theorem gcb_Pict.bs (l : List Int) (hl : l.length < 1000000) (hs : ∀ a b, a < b → b < l.length → nth l a < nth l b) (y : Int) : ∀ (d lo hi k : Nat), hi - lo ≤ d → lo ≤ hi → hi ≤ l.length → (∀ t, t < lo → nth l t < y) → (∀ t, hi ≤ t → t < l.length → y ≤ nth l t) → d < k →
    ∃ (q : Nat) (b : Bool), slices_BinarySearch_int_int.l0 k l y (l.length : Int) (lo : Int) (hi : Int) = some ((q : Int), b) ∧ (if b = true then q + 1 else q) = l.countP (fun x => decide (x ≤ y)) ∧ q ≤ l.length := by
  intro d
  induction d with
  | zero =>
    intro lo hi k hd hlh hhl h1 h2 hk
    obtain ⟨k, rfl⟩ : ∃ m, k = m + 1 := ⟨k - 1, by omega⟩
    obtain rfl : hi = lo := by omega
    simp only [slices_BinarySearch_int_int.l0]
    rw [if_neg (by omega)]
    by_cases hn : hi < l.length
    · have hrd : rd l (hi : Int) = nth l hi := rfl
      rw [if_pos (by omega), if_pos (by omega), if_pos (by omega), hrd]
      by_cases he : nth l hi = y
      · refine ⟨hi, true, by rw [if_pos he], ?_, by omega⟩
        rw [if_pos rfl]
        refine (count_split l _ (hi + 1) (by omega) (fun t ht => decide_eq_true ?_) (fun t ht1 ht2 => decide_eq_false ?_)).symm
        · by_cases e : t = hi
          · subst e; omega
          · have := h1 t (by omega); omega
        · have := hs hi t (by omega) ht2
          omega
      · refine ⟨hi, false, ?_, ?_, by omega⟩
        · rw [if_neg he]
          simp [slices_isNaN_int.f]
        · have h3 := h2 hi (Nat.le_refl _) hn
          rw [if_neg (by decide)]
          refine (count_split l _ hi (by omega) (fun t ht => decide_eq_true ?_) (fun t ht1 ht2 => decide_eq_false ?_)).symm
          · have := h1 t ht; omega
          · by_cases e : t = hi
            · subst e; omega
            · have := hs hi t (by omega) ht2
              omega
    · refine ⟨hi, false, by rw [if_neg (by omega)], ?_, by omega⟩
      rw [if_neg (by decide)]
      refine (count_split l _ hi (by omega) (fun t ht => decide_eq_true ?_) (fun t ht1 ht2 => by omega)).symm
      have := h1 t ht; omega
  | succ d ih =>
    intro lo hi k hd hlh hhl h1 h2 hk
    by_cases hlt : lo < hi
    · obtain ⟨k, rfl⟩ : ∃ m, k = m + 1 := ⟨k - 1, by omega⟩
      simp only [slices_BinarySearch_int_int.l0]
      rw [if_pos (by omega), gcb_Pict.mid lo hi (by omega), if_pos (by omega), if_pos (by omega), show rd l (((lo + hi) / 2 : Nat) : Int) = nth l ((lo + hi) / 2) from rfl]
      have hc : cmp_Less_int.f (nth l ((lo + hi) / 2)) y = some (decide (nth l ((lo + hi) / 2) < y)) := by simp [cmp_Less_int.f, cmp_isNaN_int.f]
      rw [hc]
      simp only [Option.bind_some]
      by_cases hv : nth l ((lo + hi) / 2) < y
      · rw [if_pos (by simpa using hv), show wrap64 ((((lo + hi) / 2 : Nat) : Int) + 1) = (((lo + hi) / 2 + 1 : Nat) : Int) from by unfold wrap64; omega]
        refine ih _ _ k (by omega) (by omega) hhl (fun t ht => ?_) h2 (by omega)
        by_cases e : t = (lo + hi) / 2
        · subst e; exact hv
        · have := hs t ((lo + hi) / 2) (by omega) (by omega); omega
      · rw [if_neg (by simpa using hv)]
        refine ih _ _ k (by omega) (by omega) (by omega) h1 (fun t ht1 ht2 => ?_) (by omega)
        by_cases e : t = (lo + hi) / 2
        · subst e; omega
        · have := hs ((lo + hi) / 2) t (by omega) ht2; omega
    · obtain rfl : hi = lo := by omega
      exact ih hi hi k (by omega) hlh hhl h1 h2 (by omega)
set_option maxRecDepth 100000 in
theorem gcb_Pict.build (W : World) : (Instr.build 65 ((nums .i64 gcb_Pict.L).zipIdx.map fun (x, i) => (i, x)).toArray).run Try.prog W = .ok (.agg (nums .i64 gcb_Pict.L).toArray) W := by rfl
set_option maxRecDepth 100000 in
theorem gcb_Pict.size : (nums .i64 gcb_Pict.L).toArray.size = 154 := by decide
set_option maxHeartbeats 4000000 in
set_option maxRecDepth 100000 in
theorem gcb_Pict.edges_calls (w : World) : Calls Try.prog 52 #[] w fun e w' => e = .returned (.agg (nums .i64 gcb_Pict.L).toArray) ∧ Below w.heap.size w w' := by
  go_enter Try.func52, Try.ntmps52
  go_wp2_with (first | ((with_reducible refine gate_dst (N := 0) rfl ?_); refine alloc_event rfl 65 rfl 154 (by kernel_rfl) ?_; intro g w1 cs hcs hg hb hbel hsz; have HG := Aside0.mk (show w.heap.size ≤ g by omega); have HB := Aside0.mk hbel; have HH := Aside0.mk hb; have HCS := Aside0.mk hcs; clear hcs hg hb hbel hsz) | ((with_reducible refine gate_dst (N := 1) rfl ?_); refine build_event rfl (N := 1) rfl 65 (nums .i64 gcb_Pict.L) ?ho (.agg (nums .i64 gcb_Pict.L).toArray) (gcb_Pict.build _) ?_; (case ho => kernel_rfl); generalize hV : Value.agg (nums .i64 gcb_Pict.L).toArray = V; have HV := Aside0.mk hV; clear hV) | ((with_reducible refine gate_store (t := 65) (p := 0) rfl ?_); refine block_store rfl rfl 65 (.tmp 0) (.tmp 1) rfl rfl V rfl HH.out (by rw [HCS.out, ← HV.out]; exact gcb_Pict.size) (by rw [HCS.out]; kernel_rfl) (by rw [← HV.out]; exact nums_one _) ?_; intro w2 hb2 hk2 hs2 hB2; have HB2 := Aside0.mk (hB2 _ _ HB.out HG.out); have HH2 := Aside0.mk (show w2.heap[g]? = some (.cells (nums .i64 gcb_Pict.L).toArray 65 (0, 0)) by rw [← HV.out] at hb2; exact hb2); clear hb2 hk2 hs2 hB2 HB HH))
  exact bodyPost_ret (v := (.agg (nums .i64 gcb_Pict.L).toArray)) (results_c1 rfl _ _ _ _ _ _ _ rfl HH2.out Try.underlying65 rfl (by rw [gcb_Pict.size]; kernel_rfl)) rfl ⟨rfl, HB2.out⟩
theorem gcb_Pict.up : ∀ a b, a < b → b < gcb_Pict.L.length → nth gcb_Pict.L a < nth gcb_Pict.L b := by
  have h : ∀ b : Fin 154, ∀ a : Fin b.val, nth gcb_Pict.L a.val < nth gcb_Pict.L b.val := by decide +kernel
  exact fun a b h1 h2 => h ⟨b, h2⟩ ⟨a, h1⟩
theorem gcb_Pict.blk_C (W : World) (g t : Nat) (l : List Int) (n : Nat) (hn : n = l.length) (hl : l.length < 1000000) (h : W.heap[g]? = some (.cells (nums .i64 l).toArray t (0, 0))) : (Kd.int .i64).C W (some ⟨g, 0, none⟩) n l := by
  refine ⟨hn.symm, by omega, fun _ => ⟨_, rfl, fun j p hj => ⟨[.int .i64 p], rfl, rfl, fun i u hu => ?_⟩⟩⟩
  obtain ⟨hj1, hj2⟩ := List.getElem?_eq_some_iff.1 hj
  have h1 := nums_cell W g t l h j hj1
  have h2 : nth l j = p := by unfold nth; rw [List.getD_eq_getElem?_getD, hj]; rfl
  cases i with
  | zero =>
    obtain rfl : Value.int .i64 p = u := by simpa using hu
    rw [← h2]
    have ea : (⟨g, 0, none⟩ : Addr).add (j * 1 + 0) = ⟨g, j, none⟩ := by cases j <;> simp [Addr.add]
    exact (congrArg W.cell? ea).trans h1
  | succ i => simp at hu
set_option maxHeartbeats 1000000 in
set_option maxRecDepth 100000 in
theorem gcb_Pict.calls (a0 : Int) (r : Bool) (w : World) (h : gcb_Pict.f a0 = some r) :
    Calls Try.prog 24 #[.int .i64 a0] w fun e w' => e = .returned (.bool r) ∧ Below w.heap.size w w' := by
  have HB := Aside0.mk (Below.refl w.heap.size w)
  have H' := Aside0.mk (Option.some.inj h)
  clear h
  obtain ⟨q, b, hq, hqb, hql⟩ := gcb_Pict.bs gcb_Pict.L (by decide) gcb_Pict.up a0 154 0 154 155 (by omega) (by omega) (by decide) (fun t ht => by omega) (fun t h1 h2 => by have : t < 154 := h2; omega) (by omega)
  have HQ := Aside0.mk (show slices_BinarySearch_int_int.f 155 gcb_Pict.L a0 = some ((q : Int), b) from hq)
  have HQB := Aside0.mk hqb
  have hql : q ≤ 154 := hql
  clear hq hqb
  go_enter Try.func24, Try.ntmps24
  go_wp2_with (first | (go_at_call 52; refine (gcb_Pict.edges_calls _).mono ?_; rintro e w2 ⟨rfl, hb2⟩; have n0_ := Aside0.mk (below_step HB.out hb2); clear HB hb2; have HB := n0_; clear n0_; generalize hV1 : Value.agg (nums .i64 gcb_Pict.L).toArray = V1; have HV1 := Aside0.mk hV1; clear hV1) | ((with_reducible refine gate_dst (N := 3) rfl ?_); refine alloc_event rfl 65 rfl 154 (by kernel_rfl) ?_; intro g3 w4 cs3 hcs hg hb hbel hsz; have HG3 := Aside0.mk (show w.heap.size ≤ g3 by rw [hg]; exact HB.out.size); have n0_ := Aside0.mk (below_step HB.out hbel); have HH3 := Aside0.mk hb; have HCS3 := Aside0.mk hcs; clear HB hcs hg hb hbel hsz; have HB := n0_; clear n0_) | ((with_reducible refine gate_store (t := 65) (p := 3) rfl ?_); refine block_store rfl rfl 65 (.tmp 3) (.tmp 6) rfl rfl V1 rfl HH3.out (by rw [HCS3.out, ← HV1.out]; exact gcb_Pict.size) (by rw [HCS3.out]; kernel_rfl) (by rw [← HV1.out]; exact nums_one _) ?_; intro w6 hb2 hk2 hs2 hB2; have n0_ := Aside0.mk (hB2 _ _ HB.out HG3.out); have n1_ := Aside0.mk (show w6.heap[g3]? = some (.cells (nums .i64 gcb_Pict.L).toArray 65 (0, 0)) by rw [← HV1.out] at hb2; exact hb2); clear hb2 hk2 hs2 hB2 HB HH3; have HB := n0_; have HH3 := n1_; clear n0_ n1_))
  have HSC := Aside0.mk (fun (W : World) (c : Nat) (hc : 154 ≤ c) (hh : W.heap[g3]? = some (.cells (nums .i64 gcb_Pict.L).toArray 65 (0, 0))) => slices_BinarySearch_int_int.calls 155 (some ⟨g3, 0, none⟩) c gcb_Pict.L a0 (q : Int) b W (gcb_Pict.blk_C W g3 _ gcb_Pict.L 154 (by decide) (by decide) hh) hc HQ.out)
  cases b with
  | true =>
    have hm : ((q : Int) + 1) = ((q + 1 : Nat) : Int) := by omega
    have HR := Aside0.mk (show r = (((q : Int) + 1) % 2 == 1) by rw [← H'.out]; unfold gcb_Pict.oddIn; rw [← HQB.out, if_pos rfl]; rw [Bool.eq_iff_iff, beq_iff_eq, beq_iff_eq]; omega)
    clear hm H' HQB HQ
    go_wp2_with (go_at_call 53; refine (HSC.out _ _ (by omega) HH3.out).mono ?_; rintro e w7 ⟨rfl, ⟨m7, rfl⟩⟩)
    go_ret
    exact ⟨by rw [HR.out]; rfl, pw_below_drewN HB.out _⟩
  | false =>
    have HR := Aside0.mk (show r = ((q : Int) % 2 == 1) by rw [← H'.out]; unfold gcb_Pict.oddIn; rw [← HQB.out, if_neg (by decide)]; rw [Bool.eq_iff_iff, beq_iff_eq, beq_iff_eq]; omega)
    clear H' HQB HQ
    go_wp2_with (go_at_call 53; refine (HSC.out _ _ (by omega) HH3.out).mono ?_; rintro e w7 ⟨rfl, ⟨m7, rfl⟩⟩)
    go_ret
    exact ⟨by rw [HR.out]; rfl, pw_below_drewN HB.out _⟩
end


end Go.Proofs.Ytgbkfjdkejjmpaa.PC06
