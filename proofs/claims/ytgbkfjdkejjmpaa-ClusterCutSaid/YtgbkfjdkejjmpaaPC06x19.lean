/- For the laws of the group C06: the Lean functions that the Go functions compute, and proofs that they do. Written by wip/hprint.py of this repo over the kit's printer; nothing here is trusted: Lean checks it. -/
import Derived.Test.YtgbkfjdkejjmpaaPC06x0
import Derived.Test.YtgbkfjdkejjmpaaPC06x3
import Derived.Test.YtgbkfjdkejjmpaaPC06x5
import Derived.Test.YtgbkfjdkejjmpaaPC06x6
namespace Go.Proofs.Ytgbkfjdkejjmpaa.PC06
open Go.RowKit Go.Proofs.YtgbkfjdkejjmpaaW.PrintWords Go.Proofs.YtgbkfjdkejjmpaaW.PrintLast Go.Proofs.YtgbkfjdkejjmpaaW.PrintMore
attribute [local go_sem] max2_int min2_int max_two min_two max_three min_three max_four min_four   -- for this text's walks alone
set_option linter.unusedVariables false
set_option linter.unusedSimpArgs false

/-! ### parquetrylaw06_ClusterCut: function 11: by hand -/
def parquetrylaw06_ClusterCut.cl (l : List S39) (i : Nat) : S39 := l.getD i z39
def parquetrylaw06_ClusterCut.shift (c : S39) (m : Int) : S39 := ⟨c.f0, c.f1, wrap64 (c.f2 + m), wrap64 (c.f3 + m), c.f4, c.f5⟩
/-- Which cluster is the cut ahead of. -/
def parquetrylaw06_ClusterCut.kv (n : Int) (l : List S39) : Int := Int.tmod (bits .and .i64 n 65535) (l.length : Int)
def parquetrylaw06_ClusterCut.q (n : Int) (l : List S39) : Int := (parquetrylaw06_ClusterCut.cl l (parquetrylaw06_ClusterCut.kv n l).toNat).f0
def parquetrylaw06_ClusterCut.front (l : List S37) (q : Int) : List S37 := l.filter fun r => decide (r.f0 < q)
def parquetrylaw06_ClusterCut.back (l : List S37) (q : Int) : List S37 := l.filter fun r => !decide (r.f0 < q)
/-- What the statement asks of the clusters. -/
def parquetrylaw06_ClusterCut.same (x y : S39) : Prop := x.f0 = y.f0 ∧ x.f1 = y.f1 ∧ x.f2 = y.f2 ∧ x.f3 = y.f3 ∧ x.f4 = y.f4 ∧ x.f5 = y.f5
instance parquetrylaw06_ClusterCut.sameD (x y : S39) : Decidable (parquetrylaw06_ClusterCut.same x y) := by unfold parquetrylaw06_ClusterCut.same; infer_instance
theorem parquetrylaw06_ClusterCut.same_eq {x y : S39} (h : parquetrylaw06_ClusterCut.same x y) : x = y := by
  obtain ⟨x0, x1, x2, x3, x4, x5⟩ := x
  obtain ⟨y0, y1, y2, y3, y4, y5⟩ := y
  obtain ⟨h0, h1, h2, h3, h4, h5⟩ := h
  dsimp only at h0 h1 h2 h3 h4 h5
  rw [h0, h1, h2, h3, h4, h5]
def parquetrylaw06_ClusterCut.good (n : Int) (all : List S37) (l a b : List S39) : Prop :=
  l.length < 1000000 ∧ all.length < 1000000 ∧ 0 ≤ parquetrylaw06_ClusterCut.kv n l ∧ parquetrylaw06_ClusterCut.kv n l < (l.length : Int) ∧ (a.length : Int) = parquetrylaw06_ClusterCut.kv n l ∧ (b.length : Int) = (l.length : Int) - parquetrylaw06_ClusterCut.kv n l ∧
  ∀ i, i < l.length → (((i : Int) < parquetrylaw06_ClusterCut.kv n l → parquetrylaw06_ClusterCut.same (parquetrylaw06_ClusterCut.cl a i) (parquetrylaw06_ClusterCut.cl l i)) ∧ (parquetrylaw06_ClusterCut.kv n l ≤ (i : Int) → parquetrylaw06_ClusterCut.same (parquetrylaw06_ClusterCut.shift (parquetrylaw06_ClusterCut.cl b (i - (parquetrylaw06_ClusterCut.kv n l).toNat)) ((parquetrylaw06_ClusterCut.front all (parquetrylaw06_ClusterCut.q n l)).length : Int)) (parquetrylaw06_ClusterCut.cl l i)))
instance parquetrylaw06_ClusterCut.goodD (n : Int) (all : List S37) (l a b : List S39) : Decidable (parquetrylaw06_ClusterCut.good n all l a b) := by unfold parquetrylaw06_ClusterCut.good; infer_instance
def parquetrylaw06_ClusterCut.aw (k : Nat) : Option Bool := (parquetrylaw06_awake.f k).bind fun t => if t = true then some true else none
def parquetrylaw06_ClusterCut.f (k : Nat) (a0 : ByteArray) (a1 : Int) : Option Bool := if (a0.size : Int) > 600 then parquetrylaw06_awake.f k else (runes_Split.f a0).bind fun all => (cluster_Of.f all).bind fun l =>
  if (l.length : Int) = 0 then (if (all.length : Int) = 0 then parquetrylaw06_ClusterCut.aw k else none) else
  (cluster_Of.f (parquetrylaw06_ClusterCut.front all (parquetrylaw06_ClusterCut.q a1 l))).bind fun a => (cluster_Of.f (parquetrylaw06_ClusterCut.back all (parquetrylaw06_ClusterCut.q a1 l))).bind fun b => if parquetrylaw06_ClusterCut.good a1 all l a b then parquetrylaw06_ClusterCut.aw k else none
theorem parquetrylaw06_ClusterCut.aw_mono (k : Nat) : LeO (parquetrylaw06_ClusterCut.aw k) (parquetrylaw06_ClusterCut.aw (k + 1)) := LeO.bind (parquetrylaw06_awake.mono k) (fun _ => LeO.refl _)
theorem parquetrylaw06_ClusterCut.mono : ∀ a0 a1 k, LeO (parquetrylaw06_ClusterCut.f k a0 a1) (parquetrylaw06_ClusterCut.f (k + 1) a0 a1) := by
  intro a0 a1 k
  unfold parquetrylaw06_ClusterCut.f
  refine LeO.ite (parquetrylaw06_awake.mono k) (LeO.bind (LeO.refl _) (fun _ => LeO.bind (LeO.refl _) (fun _ => LeO.ite (LeO.ite (parquetrylaw06_ClusterCut.aw_mono k) (LeO.refl _)) (LeO.bind (LeO.refl _) (fun _ => LeO.bind (LeO.refl _) (fun _ => LeO.ite (parquetrylaw06_ClusterCut.aw_mono k) (LeO.refl _)))))))
theorem parquetrylaw06_ClusterCut.aw_open {k : Nat} {r : Bool} (h : parquetrylaw06_ClusterCut.aw k = some r) : r = true ∧ parquetrylaw06_awake.f k = some true := by
  obtain ⟨t, h1, h2⟩ := Option.bind_eq_some_iff.1 h
  cases t with
  | false => rw [if_neg (by decide)] at h2; cases h2
  | true =>
    rw [if_pos rfl] at h2
    exact ⟨(Option.some.inj h2).symm, h1⟩
section
open Go.Proofs.YtgbkfjdkejjmpaaH
theorem parquetrylaw06_ClusterCut.cells6 (a b c d e f : Int) : ∀ q ∈ (Value.agg #[.int .i64 a, .int .i64 b, .int .i64 c, .int .i64 d, .int .i64 e, .int .i64 f]).cells.toList, q.oneCell' = true := fun q hq => by
  have hq' : q ∈ [Value.int .i64 a, .int .i64 b, .int .i64 c, .int .i64 d, .int .i64 e, .int .i64 f] := hq
  simp only [List.mem_cons, List.not_mem_nil, or_false] at hq'
  rcases hq' with rfl | rfl | rfl | rfl | rfl | rfl <;> rfl
def parquetrylaw06_ClusterCut.cellsC (x : S39) : List Value := [.int .i64 x.f0, .int .i64 x.f1, .int .i64 x.f2, .int .i64 x.f3, .int .i64 x.f4, .int .i64 x.f5]
theorem parquetrylaw06_ClusterCut.elem {W : World} {A : Option Addr} {n : Nat} {xs : List S39} (h : Kd.C k39 W A n xs) (i : Int) (h0 : 0 ≤ i) (h1 : i < n) : ∃ ad, A = some ad ∧ ∀ j u, (parquetrylaw06_ClusterCut.cellsC (rd_T39 xs i))[j]? = some u → W.cell? ((ad.add (i.toNat * 6)).add j) = some u := by
  obtain ⟨ad, c, e, _, hK, hc0⟩ := Kd.C_get h z39 i h0 h1
  have hc : ∀ j u, c[j]? = some u → W.cell? (ad.add (i.toNat * 6 + j)) = some u := hc0
  obtain rfl := k39_open hK
  exact ⟨ad, e, fun j u hu => by rw [add_add]; exact hc j u hu⟩
/-- Two rows of one's own. -/
structure parquetrylaw06_ClusterCut.Two (W : World) (base : Nat) (v8 v9 : Value) (x8 x9 : List S37) : Prop where
  a : Kd.R k37 37 W base (fun _ => True) v8 x8
  b : Kd.R k37 37 W base (fun _ => True) v9 x9
  ab : ∀ k, v8.ownBlock = some k → v9.ownBlock ≠ some k
section
variable {W W' : World} {base : Nat} {v8 v9 : Value} {x8 x9 : List S37}
theorem parquetrylaw06_ClusterCut.two_below (h : parquetrylaw06_ClusterCut.Two W base v8 v9 x8 x9) (hb : Below W.heap.size W W') : parquetrylaw06_ClusterCut.Two W' base v8 v9 x8 x9 := ⟨Kd.R_below h.a hb, Kd.R_below h.b hb, h.ab⟩
theorem parquetrylaw06_ClusterCut.two_a {v1 : Value} {x1 : List S37} (h : parquetrylaw06_ClusterCut.Two W base v8 v9 x8 x9) (ho : Kd.R k37 37 W' base (fun _ => True) v1 x1) (hg : W.grownBy W' v8.ownBlock) (hat : v1.ownBlock = v8.ownBlock ∨ ∃ b, v1.ownBlock = some b ∧ W.heap.size ≤ b) : parquetrylaw06_ClusterCut.Two W' base v1 v9 x1 x9 := by
  refine ⟨ho, Kd.R_grown2 h.b rfl hg (fun k hk he => h.ab k hk he.symm), fun k hk => ?_⟩
  rcases hat with e | ⟨b, e, hb⟩
  · exact h.ab k (e ▸ hk)
  · intro he
    rw [e] at hk
    have := Kd.R_lt h.b k he
    simp only [Option.some.injEq] at hk
    omega
theorem parquetrylaw06_ClusterCut.two_b {v1 : Value} {x1 : List S37} (h : parquetrylaw06_ClusterCut.Two W base v8 v9 x8 x9) (ho : Kd.R k37 37 W' base (fun _ => True) v1 x1) (hg : W.grownBy W' v9.ownBlock) (hat : v1.ownBlock = v9.ownBlock ∨ ∃ b, v1.ownBlock = some b ∧ W.heap.size ≤ b) : parquetrylaw06_ClusterCut.Two W' base v8 v1 x8 x1 := by
  refine ⟨Kd.R_grown2 h.a rfl hg (fun k hk he => h.ab k he.symm hk), ho, fun k hk => ?_⟩
  rcases hat with e | ⟨b, e, hb⟩
  · rw [e]; exact h.ab k hk
  · rw [e]
    intro he
    have := Kd.R_lt h.a k hk
    simp only [Option.some.injEq] at he
    omega
end
theorem parquetrylaw06_ClusterCut.front_snoc (l : List S37) (q : Int) (i : Nat) (hi : i < l.length) : parquetrylaw06_ClusterCut.front (l.take (i + 1)) q = if (l[i]).f0 < q then parquetrylaw06_ClusterCut.front (l.take i) q ++ [l[i]] else parquetrylaw06_ClusterCut.front (l.take i) q := by
  unfold parquetrylaw06_ClusterCut.front
  rw [List.take_succ_eq_append_getElem hi, List.filter_append]
  by_cases h : (l[i]).f0 < q
  · rw [if_pos h]; simp [h]
  · rw [if_neg h]; simp [h]
theorem parquetrylaw06_ClusterCut.back_snoc (l : List S37) (q : Int) (i : Nat) (hi : i < l.length) : parquetrylaw06_ClusterCut.back (l.take (i + 1)) q = if (l[i]).f0 < q then parquetrylaw06_ClusterCut.back (l.take i) q else parquetrylaw06_ClusterCut.back (l.take i) q ++ [l[i]] := by
  unfold parquetrylaw06_ClusterCut.back
  rw [List.take_succ_eq_append_getElem hi, List.filter_append]
  by_cases h : (l[i]).f0 < q
  · rw [if_pos h]; simp [h]
  · rw [if_neg h]; simp [h]
theorem parquetrylaw06_ClusterCut.front_le (l : List S37) (q : Int) (i : Nat) : (parquetrylaw06_ClusterCut.front (l.take i) q).length ≤ l.length := by
  have h1 := List.length_filter_le (fun r : S37 => decide (r.f0 < q)) (l.take i)
  have h2 := List.length_take_le' i l
  unfold parquetrylaw06_ClusterCut.front
  omega
theorem parquetrylaw06_ClusterCut.back_le (l : List S37) (q : Int) (i : Nat) : (parquetrylaw06_ClusterCut.back (l.take i) q).length ≤ l.length := by
  have h1 := List.length_filter_le (fun r : S37 => !decide (r.f0 < q)) (l.take i)
  have h2 := List.length_take_le' i l
  unfold parquetrylaw06_ClusterCut.back
  omega
set_option maxHeartbeats 8000000 in
set_option maxRecDepth 100000 in
theorem parquetrylaw06_ClusterCut.calls (k : Nat) (a0 : ByteArray) (a1 : Int) (r : Bool) (w : World) (h : parquetrylaw06_ClusterCut.f k a0 a1 = some r) : Calls Try.prog 11 #[.string a0, .int .i64 a1] w fun e w' => e = .returned (.bool r) ∧ Below w.heap.size w w' := by
  have hu := Try.underlying39
  have hu2 := Try.underlying37
  unfold parquetrylaw06_ClusterCut.f at h
  have HB := Aside0.mk (Below.refl w.heap.size w)
  by_cases hs : (a0.size : Int) > 600
  · rw [if_pos hs] at h
    have hsb := decide_eq_true hs
    have HA := Aside0.mk h
    clear h hs
    go_enter Try.func11, Try.ntmps11
    go_wp2_with (go_at_call 29; (with_reducible refine (parquetrylaw06_awake.calls k r _ HA.out).mono ?_); rintro e w1 ⟨rfl, hb⟩; have n0_ := Aside0.mk (below_step HB.out hb); clear HB hb; have HB := n0_; clear n0_)
    go_ret
    exact ⟨rfl, HB.out⟩
  · rw [if_neg hs] at h
    obtain ⟨all, hsp, h⟩ := Option.bind_eq_some_iff.1 h
    obtain ⟨l, hof, h⟩ := Option.bind_eq_some_iff.1 h
    have hsb := decide_eq_false hs
    have HSP := Aside0.mk hsp
    have HOF := Aside0.mk hof
    clear hs hsp hof
    by_cases hl0 : (l.length : Int) = 0
    · rw [if_pos hl0] at h
      by_cases ha0 : (all.length : Int) = 0
      case neg =>
        rw [if_neg ha0] at h
        cases h
      rw [if_pos ha0] at h
      obtain ⟨rfl, haw⟩ := parquetrylaw06_ClusterCut.aw_open h
      have HA := Aside0.mk haw
      have e1 : ((l.length : Int) == 0) = true := beq_iff_eq.2 hl0
      have e2 : ((all.length : Int) == 0) = true := beq_iff_eq.2 ha0
      clear h haw hl0 ha0
      go_enter Try.func11, Try.ntmps11
      go_wp2_with (first | (go_at_call 30; (with_reducible refine (runes_Split.calls a0 all _ HSP.out).mono ?_); rintro e w1 ⟨v1, rfl, hO, hb⟩; obtain ⟨A1, q1, rfl, hq1, hC1⟩ := Kd.R_reads hO; have HC1 := Aside0.mk hC1; have HQ1 := Aside0.mk hq1; have n0_ := Aside0.mk (below_step HB.out hb); clear HB hb hO hC1 hq1; have HB := n0_; clear n0_) | (go_at_call 31; (with_reducible refine (cluster_Of.calls A1 q1 all l _ HC1.out HQ1.out HOF.out).mono ?_); rintro e w2 ⟨v2, rfl, hO, hb⟩; obtain ⟨A2, q2, rfl, hq2, hC2⟩ := Kd.R_reads hO; have HC2 := Aside0.mk hC2; have HQ2 := Aside0.mk hq2; have n1_ := Aside0.mk (Kd.C_below HC1.out hb); have n0_ := Aside0.mk (below_step HB.out hb); have HW := Aside0.mk (Below.refl w2.heap.size w2); clear HB HC1 hb hO hC2 hq2; have HB := n0_; have HC1 := n1_; clear n0_ n1_) | (go_at_call 29; (with_reducible refine (parquetrylaw06_awake.calls k true _ HA.out).mono ?_); rintro e w3 ⟨rfl, hb⟩; have n0_ := Aside0.mk (below_step HB.out hb); clear HB hb; have HB := n0_; clear n0_))
      go_ret
      exact ⟨rfl, HB.out⟩
    · rw [if_neg hl0] at h
      obtain ⟨a, hfa, h⟩ := Option.bind_eq_some_iff.1 h
      obtain ⟨b, hfb, h⟩ := Option.bind_eq_some_iff.1 h
      by_cases hg : parquetrylaw06_ClusterCut.good a1 all l a b
      case neg =>
        rw [if_neg hg] at h
        cases h
      rw [if_pos hg] at h
      obtain ⟨rfl, haw⟩ := parquetrylaw06_ClusterCut.aw_open h
      obtain ⟨g1, g2, g3, g4, g5, g6, g7⟩ := hg
      have HA := Aside0.mk haw
      have HFA := Aside0.mk hfa
      have HFB := Aside0.mk hfb
      have HG := Aside0.mk g7
      have e1 : ((l.length : Int) == 0) = false := beq_eq_false_iff_ne.2 hl0
      clear h haw hfa hfb g7
      have HKV := Aside0.mk (show Int.tmod (bits .and .i64 a1 65535) (l.length : Int) = parquetrylaw06_ClusterCut.kv a1 l from rfl)
      have HQ := Aside0.mk (show parquetrylaw06_ClusterCut.q a1 l = (parquetrylaw06_ClusterCut.cl l (parquetrylaw06_ClusterCut.kv a1 l).toNat).f0 from rfl)
      generalize parquetrylaw06_ClusterCut.kv a1 l = kv at *
      generalize parquetrylaw06_ClusterCut.q a1 l = q at *
      have hkv := HKV.out
      have hl1 : 0 < (l.length : Int) := by omega
      go_enter Try.func11, Try.ntmps11
      go_wp2_with (first | (go_at_call 30; (with_reducible refine (runes_Split.calls a0 all _ HSP.out).mono ?_); rintro e w1 ⟨v1, rfl, hO, hb⟩; obtain ⟨A1, q1, rfl, hq1, hC1⟩ := Kd.R_reads hO; have HC1 := Aside0.mk hC1; have HQ1 := Aside0.mk hq1; have n0_ := Aside0.mk (below_step HB.out hb); clear HB hb hO hC1 hq1; have HB := n0_; clear n0_) | (go_at_call 31; (with_reducible refine (cluster_Of.calls A1 q1 all l _ HC1.out HQ1.out HOF.out).mono ?_); rintro e w2 ⟨v2, rfl, hO, hb⟩; obtain ⟨A2, q2, rfl, hq2, hC2⟩ := Kd.R_reads hO; have HC2 := Aside0.mk hC2; have HQ2 := Aside0.mk hq2; have n1_ := Aside0.mk (Kd.C_below HC1.out hb); have n0_ := Aside0.mk (below_step HB.out hb); have HW := Aside0.mk (Below.refl w2.heap.size w2); clear HB HC1 hb hO hC2 hq2; have HB := n0_; have HC1 := n1_; clear n0_ n1_))
      go_loopg [8, 9, 10] all.length (fun kq v8 v9 v10 w' => ∃ i : Nat, v10 = .int .i64 (i : Int) ∧ i ≤ all.length ∧ all.length - i ≤ kq ∧ Aside0 (parquetrylaw06_ClusterCut.Two w' w2.heap.size v8 v9 (parquetrylaw06_ClusterCut.front (all.take i) q) (parquetrylaw06_ClusterCut.back (all.take i) q)) ∧ Aside0 (Below w2.heap.size w2 w'))
      case atStart => exact ⟨0, rfl, Nat.zero_le _, by omega, ⟨⟨Kd.R_nil _ _ _ _ _, Kd.R_nil _ _ _ _ _, fun k hk => by simp [Value.ownBlock] at hk⟩⟩, HW⟩
      case round =>
        clear HW
        obtain ⟨i, rfl, hi, hq, HT, HW⟩ := hrel
        by_cases hlt : i < all.length
        · obtain ⟨ii, hii⟩ : ∃ z : Int, z = (i : Int) := ⟨_, rfl⟩
          have hi0 : 0 ≤ ii := by omega
          have hi1 : ii < (all.length : Int) := by omega
          obtain ⟨ad, ea, hx0, hx1, hx2⟩ := at_T37 HC1.out ii hi0 hi1
          cases ea
          obtain ⟨ad2, ea, hy0, -, -, -, -, -⟩ := at_T39 HC2.out kv g3 g4
          cases ea
          have hrd : rd_T37 all ii = all[i] := by unfold rd_T37; rw [hii, Int.toNat_natCast]; simp [List.getD_eq_getElem?_getD, hlt]
          rw [hrd] at hx0 hx1 hx2
          have hy : (rd_T39 l kv).f0 = q := HQ.out.symm
          rw [hy] at hy0
          have FS := parquetrylaw06_ClusterCut.front_snoc all q i hlt
          have BS := parquetrylaw06_ClusterCut.back_snoc all q i hlt
          have L8 := parquetrylaw06_ClusterCut.front_le all q i
          have L9 := parquetrylaw06_ClusterCut.back_le all q i
          rw [← hii]
          have HII := Aside0.mk hii
          clear hii hrd hy
          replace hx0 := (HW.out.cell (World.block_lt_of_cell? w2 _ hx0)).trans hx0
          replace hx1 := (HW.out.cell (World.block_lt_of_cell? w2 _ hx1)).trans hx1
          replace hx2 := (HW.out.cell (World.block_lt_of_cell? w2 _ hx2)).trans hx2
          replace hy0 := (HW.out.cell (World.block_lt_of_cell? w2 _ hy0)).trans hy0
          generalize all[i] = r at *
          obtain ⟨r0, r1, r2⟩ := r
          dsimp only at hx0 hx1 hx2 FS BS
          have hi0e := eq_true hi0
          have hi1e := eq_true hi1
          have g3e := eq_true g3
          have g4e := eq_true g4
          generalize h8 : parquetrylaw06_ClusterCut.front (all.take i) q = y8 at *
          generalize h9 : parquetrylaw06_ClusterCut.back (all.take i) q = y9 at *
          by_cases hc : r0 < q
          · rw [if_pos hc] at FS BS
            have hcb := decide_eq_true hc
            have F1 := Aside0.mk FS
            have F2 := Aside0.mk BS
            have LL := Aside0.mk (And.intro L8 L9)
            clear FS BS h8 h9 L8 L9 hc
            go_upto_region 12 with (fail)
            (try simp only [Act.put, List.setIfInBounds_toArray, List.set_cons_zero, List.set_cons_succ])
            go_quiet (fail)
            have n0_ := Aside0.mk (parquetrylaw06_ClusterCut.two_below HT.out (pw_below_drewN (Below.refl wr.heap.size wr) nq)); have n1_ := Aside0.mk (pw_below_drewN HW.out nq); replace hx0 : (wr.drewN nq).cell? _ = _ := hx0; replace hx1 : (wr.drewN nq).cell? _ = _ := hx1; replace hx2 : (wr.drewN nq).cell? _ = _ := hx2; clear HT HW hy0; have HT := n0_; have HW := n1_; clear n0_ n1_; generalize wr.drewN nq = w3 at *
            go_wp2_with ((with_reducible refine gate_builtin (b := .append) (xs := #[.tmp 54, .tmp 59]) rfl ?_); at_builtin; refine Kd.R_append k37 (w0 := w2) w2.heap.size rfl (.tmp 54) (.tmp 59) 32 37 (.agg #[(.int .i64 0), (.int .i64 0), (.int .i64 0)]) 24 rfl Try.underlying32 info37 rfl (by decide) (by omega) _ y8 (⟨r0, r1, r2⟩ : S37) [.int .i64 r0, .int .i64 r1, .int .i64 r2] (fun _ => True) (fun _ => False) rfl rfl (k37_mkM _ _ _ (⟨r0, r1, r2⟩ : S37)) (fun _ hk => hk.elim) (fun _ _ => trivial) HT.out.a HW.out HW.out.size (by have := LL.out.1; omega) ?_; intro vn w4 ho hb hg hat; have n0_ := Aside0.mk (parquetrylaw06_ClusterCut.two_a HT.out ho hg hat); have n1_ := Aside0.mk hb; clear HT HW ho hb hg hat hx0 hx1 hx2; have HT := n0_; have HW := n1_; clear n0_ n1_)
            go_roundg (all.length - (i + 1))
            case measure => omega
            case rel => exact ⟨i + 1, by rw [HII.out]; go_num, by omega, Nat.le_refl _, ⟨by rw [F1.out, F2.out]; exact HT.out⟩, HW⟩
          · rw [if_neg hc] at FS BS
            have hcb := decide_eq_false hc
            have F1 := Aside0.mk FS
            have F2 := Aside0.mk BS
            have LL := Aside0.mk (And.intro L8 L9)
            clear FS BS h8 h9 L8 L9 hc
            go_upto_region 12 with (fail)
            (try simp only [Act.put, List.setIfInBounds_toArray, List.set_cons_zero, List.set_cons_succ])
            go_quiet (fail)
            have n0_ := Aside0.mk (parquetrylaw06_ClusterCut.two_below HT.out (pw_below_drewN (Below.refl wr.heap.size wr) nq)); have n1_ := Aside0.mk (pw_below_drewN HW.out nq); replace hx0 : (wr.drewN nq).cell? _ = _ := hx0; replace hx1 : (wr.drewN nq).cell? _ = _ := hx1; replace hx2 : (wr.drewN nq).cell? _ = _ := hx2; clear HT HW hy0; have HT := n0_; have HW := n1_; clear n0_ n1_; generalize wr.drewN nq = w3 at *
            go_wp2_with ((with_reducible refine gate_builtin (b := .append) (xs := #[.tmp 61, .tmp 66]) rfl ?_); at_builtin; refine Kd.R_append k37 (w0 := w2) w2.heap.size rfl (.tmp 61) (.tmp 66) 32 37 (.agg #[(.int .i64 0), (.int .i64 0), (.int .i64 0)]) 24 rfl Try.underlying32 info37 rfl (by decide) (by omega) _ y9 (⟨r0, r1, r2⟩ : S37) [.int .i64 r0, .int .i64 r1, .int .i64 r2] (fun _ => True) (fun _ => False) rfl rfl (k37_mkM _ _ _ (⟨r0, r1, r2⟩ : S37)) (fun _ hk => hk.elim) (fun _ _ => trivial) HT.out.b HW.out HW.out.size (by have := LL.out.2; omega) ?_; intro vn w4 ho hb hg hat; have n0_ := Aside0.mk (parquetrylaw06_ClusterCut.two_b HT.out ho hg hat); have n1_ := Aside0.mk hb; clear HT HW ho hb hg hat hx0 hx1 hx2; have HT := n0_; have HW := n1_; clear n0_ n1_)
            go_roundg (all.length - (i + 1))
            case measure => omega
            case rel => exact ⟨i + 1, by rw [HII.out]; go_num, by omega, Nat.le_refl _, ⟨by rw [F1.out, F2.out]; exact HT.out⟩, HW⟩
        · obtain rfl : i = all.length := by omega
          have ht := HT.out
          rw [List.take_length] at ht
          obtain ⟨A8, q8, rfl, hq8, hC8⟩ := Kd.R_reads ht.a
          obtain ⟨A9, q9, rfl, hq9, hC9⟩ := Kd.R_reads ht.b
          have HX8 := Aside0.mk (show ∀ i, i < l.length → _ from HG.out)
          generalize parquetrylaw06_ClusterCut.front all q = x8 at *
          have HG7 := HX8
          generalize parquetrylaw06_ClusterCut.back all q = x9 at *
          have HC8 := Aside0.mk (And.intro hC8 hq8)
          have HC9 := Aside0.mk (And.intro hC9 hq9)
          have HCl := Aside0.mk (Kd.C_below HC2.out HW.out)
          have n0_ := Aside0.mk (below_step HB.out HW.out)
          clear HB ht HT hC8 hC9 hq8 hq9 HC2 HW HG
          have HB := n0_
          clear n0_
          have t1 : ((a.length : Int) != kv) = false := bne_eq_false_iff_eq.2 g5
          have t2 : ((b.length : Int) != (l.length : Int) - kv) = false := bne_eq_false_iff_eq.2 g6
          go_wp2_with (first | (go_at_call 31; (with_reducible refine (cluster_Of.calls A8 q8 x8 a _ HC8.out.1 HC8.out.2 HFA.out).mono ?_); rintro e w5 ⟨v11, rfl, hO, hb⟩; obtain ⟨A11, q11, rfl, hq11, hC11⟩ := Kd.R_reads hO; have HCa := Aside0.mk hC11; have n0_ := Aside0.mk (below_step HB.out hb); have n1_ := Aside0.mk (Kd.C_below HCl.out hb); have n2_ := Aside0.mk (And.intro (Kd.C_below HC9.out.1 hb) HC9.out.2); clear HB HCl HC9 hb hO hC11 hq11; have HB := n0_; have HCl := n1_; have HC9 := n2_; clear n0_ n1_ n2_) | (go_at_call 31; (with_reducible refine (cluster_Of.calls A9 q9 x9 b _ HC9.out.1 HC9.out.2 HFB.out).mono ?_); rintro e w6 ⟨v12, rfl, hO, hb⟩; obtain ⟨A12, q12, rfl, hq12, hC12⟩ := Kd.R_reads hO; have HCb := Aside0.mk hC12; have n0_ := Aside0.mk (below_step HB.out hb); have n1_ := Aside0.mk (Kd.C_below HCl.out hb); have n2_ := Aside0.mk (Kd.C_below HCa.out hb); have HW := Aside0.mk (Below.refl w6.heap.size w6); clear HB HCl HCa HC9 HC8 hb hO hC12 hq12; have HB := n0_; have HCl := n1_; have HCa := n2_; clear n0_ n1_ n2_))
          clear HX8
          go_loopg [13] l.length (fun kq v13 w' => ∃ i : Nat, v13 = .int .i64 (i : Int) ∧ i ≤ l.length ∧ l.length - i ≤ kq ∧ Aside0 (Below w6.heap.size w6 w'))
          case atStart => exact ⟨0, rfl, Nat.zero_le _, by omega, HW⟩
          case round =>
            clear HW
            obtain ⟨i, rfl, hi, hq, HW⟩ := hrel
            by_cases hlt : i < l.length
            · have h7 := HG7.out i hlt
              obtain ⟨ii, hii⟩ : ∃ z : Int, z = (i : Int) := ⟨_, rfl⟩
              have hi0 : 0 ≤ ii := by omega
              have hi1 : ii < (l.length : Int) := by omega
              rw [← hii] at h7 ⊢
              have hrd : rd_T39 l ii = parquetrylaw06_ClusterCut.cl l i := by unfold rd_T39 parquetrylaw06_ClusterCut.cl; rw [hii, Int.toNat_natCast]
              obtain ⟨ady, ey, y0, y1, y2, y3, y4, y5⟩ := at_T39 HCl.out ii hi0 hi1
              cases ey
              rw [hrd] at y0 y1 y2 y3 y4 y5
              have HY := Aside0.mk (And.intro y0 (And.intro y1 (And.intro y2 (And.intro y3 (And.intro y4 y5)))))
              clear y0 y1 y2 y3 y4 y5
              have hi0e := eq_true hi0
              have hi1e := eq_true hi1
              have HII := Aside0.mk hii
              by_cases hk : ii < kv
              · have hkb := decide_eq_true hk
                have hsame := parquetrylaw06_ClusterCut.same_eq (h7.1 hk)
                have hia : ii < (a.length : Int) := by omega
                have hra : rd_T39 a ii = parquetrylaw06_ClusterCut.cl a i := by unfold rd_T39 parquetrylaw06_ClusterCut.cl; rw [hii, Int.toNat_natCast]
                have HZ := Aside0.mk (parquetrylaw06_ClusterCut.elem HCa.out ii hi0 hia)
                rw [hra, hsame] at HZ
                have hiae := eq_true hia
                clear h7 hrd hra hsame hii
                generalize parquetrylaw06_ClusterCut.cl l i = c at *
                obtain ⟨c0, c1, c2, c3, c4, c5⟩ := c
                obtain ⟨adz, ez, hZ⟩ := HZ.out
                have HZC := Aside0.mk hZ
                cases ez
                clear hZ HZ
                go_upto_region 27 with (first | ((with_reducible refine gate_dst (N := 14) rfl ?_); refine alloc_event rfl 39 rfl 6 (by kernel_rfl) ?_; intro g14 w7 cs14 hcs hg hb hbel hsz; have n0_ := Aside0.mk (below_step HW.out hbel); have G14 := Aside0.mk (show w6.heap.size ≤ g14 by rw [hg]; exact HW.out.size); have K14 := Aside0.mk hb; have C14 := Aside0.mk hcs; clear HW hcs hg hb hbel hsz; have HW := n0_; clear n0_) | ((with_reducible refine gate_store (t := 39) (p := 14) (v := .tmp 91) rfl ?_); refine block_store rfl rfl 39 (.tmp 14) (.tmp 91) rfl rfl (.agg #[.int .i64 0, .int .i64 0, .int .i64 0, .int .i64 0, .int .i64 0, .int .i64 0]) rfl K14.out (by rw [C14.out]; rfl) (by rw [C14.out]; kernel_rfl) (parquetrylaw06_ClusterCut.cells6 _ _ _ _ _ _) ?_; intro w8 hb hk hs hB; have n0_ := Aside0.mk (hB _ _ HW.out G14.out); have n1_ := Aside0.mk hb; clear HW K14 C14 hb hk hs hB; have HW := n0_; have K14 := n1_; clear n0_ n1_) | ((with_reducible refine gate_dst (N := 98) rfl ?_); refine agg_load rfl 39 (.tmp 97) rfl (adz.add (ii.toNat * 6)) rfl [.int .i64 c0, .int .i64 c1, .int .i64 c2, .int .i64 c3, .int .i64 c4, .int .i64 c5] _ Try.underlying39 rfl (by kernel_rfl) (fun j v hj => (HW.out.cell (World.block_lt_of_cell? w6 _ (HZC.out j v hj))).trans (HZC.out j v hj)) ?_) | ((with_reducible refine gate_store (t := 39) (p := 14) (v := .tmp 98) rfl ?_); refine block_store rfl rfl 39 (.tmp 14) (.tmp 98) rfl rfl (.agg #[.int .i64 c0, .int .i64 c1, .int .i64 c2, .int .i64 c3, .int .i64 c4, .int .i64 c5]) rfl K14.out rfl (by kernel_rfl) (parquetrylaw06_ClusterCut.cells6 _ _ _ _ _ _) ?_; intro w9 hb hk hs hB; have n0_ := Aside0.mk (hB _ _ HW.out G14.out); have n1_ := Aside0.mk hb; clear HW K14 hb hk hs hB; have HW := n0_; have K14 := n1_; clear n0_ n1_))
                obtain ⟨y0, y1, y2, y3, y4, y5⟩ := HY.out
                try dsimp only at y0 y1 y2 y3 y4 y5
                replace y0 := (HW.out.cell (World.block_lt_of_cell? w6 _ y0)).trans y0
                have k0 := (blk_cell K14.out 0).trans rfl
                replace y1 := (HW.out.cell (World.block_lt_of_cell? w6 _ y1)).trans y1
                have k1 := (blk_cell K14.out 1).trans rfl
                replace y2 := (HW.out.cell (World.block_lt_of_cell? w6 _ y2)).trans y2
                have k2 := (blk_cell K14.out 2).trans rfl
                replace y3 := (HW.out.cell (World.block_lt_of_cell? w6 _ y3)).trans y3
                have k3 := (blk_cell K14.out 3).trans rfl
                replace y4 := (HW.out.cell (World.block_lt_of_cell? w6 _ y4)).trans y4
                have k4 := (blk_cell K14.out 4).trans rfl
                replace y5 := (HW.out.cell (World.block_lt_of_cell? w6 _ y5)).trans y5
                have k5 := (blk_cell K14.out 5).trans rfl
                (try simp only [Act.put, List.setIfInBounds_toArray, List.set_cons_zero, List.set_cons_succ])
                go_quiet (fail)
                all_goals (try go_wp2)
                have n0_ := Aside0.mk (pw_below_drewN HW.out nq)
                clear HW
                have HW := n0_
                clear n0_ k0 k1 k2 k3 k4 k5 y0 y1 y2 y3 y4 y5
                go_roundg (l.length - (i + 1))
                case measure => omega
                case rel => exact ⟨i + 1, by rw [HII.out]; go_num, by omega, Nat.le_refl _, HW⟩
              · have hkb := decide_eq_false hk
                have hsame := parquetrylaw06_ClusterCut.same_eq (h7.2 (by omega))
                have hib : ii - kv < (b.length : Int) := by omega
                have hib0 : 0 ≤ ii - kv := by omega
                have hrb : rd_T39 b (ii - kv) = parquetrylaw06_ClusterCut.cl b (i - kv.toNat) := by unfold rd_T39 parquetrylaw06_ClusterCut.cl; rw [show (ii - kv).toNat = i - kv.toNat by omega]
                have HZ := Aside0.mk (parquetrylaw06_ClusterCut.elem HCb.out (ii - kv) hib0 hib)
                rw [hrb] at HZ
                have hibe := eq_true hib
                have hib0e := eq_true hib0
                generalize hcb : parquetrylaw06_ClusterCut.cl b (i - kv.toNat) = d at *
                obtain ⟨c0, c1, d2, d3, c4, c5⟩ := d
                rw [← hsame] at HY
                unfold parquetrylaw06_ClusterCut.shift at HY
                try dsimp only at HY
                clear h7 hrd hrb hsame hii hcb
                obtain ⟨adz, ez, hZ⟩ := HZ.out
                have HZC := Aside0.mk hZ
                cases ez
                clear hZ HZ
                go_upto_region 25 with (first | ((with_reducible refine gate_dst (N := 14) rfl ?_); refine alloc_event rfl 39 rfl 6 (by kernel_rfl) ?_; intro g14 w7 cs14 hcs hg hb hbel hsz; have n0_ := Aside0.mk (below_step HW.out hbel); have G14 := Aside0.mk (show w6.heap.size ≤ g14 by rw [hg]; exact HW.out.size); have K14 := Aside0.mk hb; have C14 := Aside0.mk hcs; clear HW hcs hg hb hbel hsz; have HW := n0_; clear n0_) | ((with_reducible refine gate_store (t := 39) (p := 14) (v := .tmp 91) rfl ?_); refine block_store rfl rfl 39 (.tmp 14) (.tmp 91) rfl rfl (.agg #[.int .i64 0, .int .i64 0, .int .i64 0, .int .i64 0, .int .i64 0, .int .i64 0]) rfl K14.out (by rw [C14.out]; rfl) (by rw [C14.out]; kernel_rfl) (parquetrylaw06_ClusterCut.cells6 _ _ _ _ _ _) ?_; intro w8 hb hk hs hB; have n0_ := Aside0.mk (hB _ _ HW.out G14.out); have n1_ := Aside0.mk hb; clear HW K14 C14 hb hk hs hB; have HW := n0_; have K14 := n1_; clear n0_ n1_) | ((with_reducible refine gate_dst (N := 104) rfl ?_); refine agg_load rfl 39 (.tmp 103) rfl (adz.add ((ii - kv).toNat * 6)) rfl [.int .i64 c0, .int .i64 c1, .int .i64 d2, .int .i64 d3, .int .i64 c4, .int .i64 c5] _ Try.underlying39 rfl (by kernel_rfl) (fun j v hj => (HW.out.cell (World.block_lt_of_cell? w6 _ (HZC.out j v hj))).trans (HZC.out j v hj)) ?_) | ((with_reducible refine gate_store (t := 39) (p := 14) (v := .tmp 104) rfl ?_); refine block_store rfl rfl 39 (.tmp 14) (.tmp 104) rfl rfl (.agg #[.int .i64 c0, .int .i64 c1, .int .i64 d2, .int .i64 d3, .int .i64 c4, .int .i64 c5]) rfl K14.out rfl (by kernel_rfl) (parquetrylaw06_ClusterCut.cells6 _ _ _ _ _ _) ?_; intro w9 hb hk hs hB; have n0_ := Aside0.mk (hB _ _ HW.out G14.out); have n1_ := Aside0.mk hb; clear HW K14 hb hk hs hB; have HW := n0_; have K14 := n1_; clear n0_ n1_))
                have k2 := (blk_cell K14.out 2).trans rfl
                have k3 := (blk_cell K14.out 3).trans rfl
                have f2 := blk_frozen K14.out 2
                have f3 := blk_frozen K14.out 3
                go_upto_region 27 with (fail)
                have K15 := blk_set (blk_set K14.out 2 (.int .i64 (wrap64 (d2 + (x8.length : Int))))) 3 (.int .i64 (wrap64 (d3 + (x8.length : Int))))
                have n1_ := Aside0.mk (show _ = some (Obj.cells #[.int .i64 c0, .int .i64 c1, .int .i64 (wrap64 (d2 + (x8.length : Int))), .int .i64 (wrap64 (d3 + (x8.length : Int))), .int .i64 c4, .int .i64 c5] 39 (0, 0)) from K15)
                have n0_ := Aside0.mk ((HW.out.setCell (p := ⟨g14, 2, none⟩) G14.out (.int .i64 (wrap64 (d2 + (x8.length : Int))))).setCell (p := ⟨g14, 3, none⟩) G14.out (.int .i64 (wrap64 (d3 + (x8.length : Int)))))
                clear HW K14 K15 k2 k3 f2 f3
                have HW := n0_
                have K14 := n1_
                clear n0_ n1_
                generalize (w9.setCell { block := g14, off := 2 } (Value.int IntKind.i64 (wrap64 (d2 + (x8.length : Int))))).setCell { block := g14, off := 3 } (Value.int IntKind.i64 (wrap64 (d3 + (x8.length : Int)))) = w10 at *
                generalize wrap64 (d2 + (x8.length : Int)) = c2 at *
                generalize wrap64 (d3 + (x8.length : Int)) = c3 at *
                obtain ⟨y0, y1, y2, y3, y4, y5⟩ := HY.out
                try dsimp only at y0 y1 y2 y3 y4 y5
                replace y0 := (HW.out.cell (World.block_lt_of_cell? w6 _ y0)).trans y0
                have k0 := (blk_cell K14.out 0).trans rfl
                replace y1 := (HW.out.cell (World.block_lt_of_cell? w6 _ y1)).trans y1
                have k1 := (blk_cell K14.out 1).trans rfl
                replace y2 := (HW.out.cell (World.block_lt_of_cell? w6 _ y2)).trans y2
                have k2 := (blk_cell K14.out 2).trans rfl
                replace y3 := (HW.out.cell (World.block_lt_of_cell? w6 _ y3)).trans y3
                have k3 := (blk_cell K14.out 3).trans rfl
                replace y4 := (HW.out.cell (World.block_lt_of_cell? w6 _ y4)).trans y4
                have k4 := (blk_cell K14.out 4).trans rfl
                replace y5 := (HW.out.cell (World.block_lt_of_cell? w6 _ y5)).trans y5
                have k5 := (blk_cell K14.out 5).trans rfl
                (try simp only [Act.put, List.setIfInBounds_toArray, List.set_cons_zero, List.set_cons_succ])
                go_quiet (fail)
                all_goals (try go_wp2)
                have n0_ := Aside0.mk (pw_below_drewN HW.out nq)
                clear HW
                have HW := n0_
                clear n0_ k0 k1 k2 k3 k4 k5 y0 y1 y2 y3 y4 y5
                go_roundg (l.length - (i + 1))
                case measure => omega
                case rel => exact ⟨i + 1, by rw [HII.out]; go_num, by omega, Nat.le_refl _, HW⟩
            · obtain rfl : i = l.length := by omega
              have HB2 := Aside0.mk (below_step HB.out HW.out)
              clear HB
              go_wp2_with (go_at_call 29; (with_reducible refine (parquetrylaw06_awake.calls k true _ HA.out).mono ?_); rintro e w11 ⟨rfl, hb⟩; have HB := Aside0.mk (below_step HB2.out hb); clear hb)
              go_ret
              exact ⟨rfl, HB.out⟩
end


/-- THE ONE PURE STATEMENT of parquetrylaw06_ClusterCut: yours. -/
def parquetrylaw06_ClusterCut.Pure : Prop := ∀ (a0 : ByteArray) (a1 : Int), a0.size ≤ 140737488351232 → (Lit.int .i64 a1).wf = true → ∃ k, parquetrylaw06_ClusterCut.f k a0 a1 = some true
theorem parquetrylaw06_ClusterCut.walk (P : parquetrylaw06_ClusterCut.Pure) (a0 : ByteArray) (a1 : Int) (w : World) (w0 : a0.size ≤ 140737488351232) (w1 : (Lit.int .i64 a1).wf = true) :
    Calls Try.prog 11 #[.string a0, .int .i64 a1] w fun e w' => e = .returned (.bool true) ∧ Below w.heap.size w w' := by
  obtain ⟨k, h⟩ := P a0 a1 w0 w1
  refine (parquetrylaw06_ClusterCut.calls k a0 a1 true w h).mono ?_
  rintro e w' ⟨rfl, hd⟩
  exact ⟨rfl, hd⟩

end Go.Proofs.Ytgbkfjdkejjmpaa.PC06
