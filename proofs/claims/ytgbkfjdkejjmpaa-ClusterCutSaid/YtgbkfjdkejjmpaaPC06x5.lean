/- For the laws of the group C06: the Lean functions that the Go functions compute, and proofs that they do. Written by wip/hprint.py of this repo over the kit's printer; nothing here is trusted: Lean checks it. -/
import Derived.Test.YtgbkfjdkejjmpaaPC06x0
import Derived.Test.YtgbkfjdkejjmpaaPC06x3
import Derived.Test.YtgbkfjdkejjmpaaPC06x4
namespace Go.Proofs.Ytgbkfjdkejjmpaa.PC06
open Go.RowKit Go.Proofs.YtgbkfjdkejjmpaaW.PrintWords Go.Proofs.YtgbkfjdkejjmpaaW.PrintLast Go.Proofs.YtgbkfjdkejjmpaaW.PrintMore
attribute [local go_sem] max2_int min2_int max_two min_two max_three min_three max_four min_four   -- for this text's walks alone
set_option linter.unusedVariables false
set_option linter.unusedSimpArgs false

/-! ### cluster_Of: function 31: by hand -/
/-- A cluster that a rune joins. -/
def cluster_Of.grow (c : S39) (r1 r2 a3 : Int) (a5 : Bool) (b4 n : Int) : S39 := ⟨c.f0, wrap64 (c.f1 + r1), c.f2, n, if (a3 == 1) = true then c.f4 else if (r2 == 65039) = true then (if a5 = true then 2 else max c.f4 b4) else max c.f4 b4, c.f5⟩
def cluster_Of.lp : List S37 → List S39 → Int → Int → Int → Int → Int → Bool → Int → Int → Nat → Option (List S39)
  | [], out, _, _, _, _, _, _, _, _, _ => some out
  | r :: t, out, a0, a1, a2, a3, a4, a5, a6, a7, i =>
    (cluster_see.f r.f0 r.f1 r.f2).bind fun b => (cluster_seen_then.f a0 a1 a2 a3 a4 a5 a6 a7 b.1 b.2.1 b.2.2.1 b.2.2.2.1 b.2.2.2.2.1 b.2.2.2.2.2).bind fun n =>
      if i = 0 then (if out.length < 2932031007402 then (cluster_first.f b.1 b.2.1 b.2.2.1 b.2.2.2.1 b.2.2.2.2.1 b.2.2.2.2.2 (i : Int)).bind fun c => cluster_Of.lp t (out ++ [⟨c.1, c.2.1, c.2.2.1, c.2.2.2.1, c.2.2.2.2.1, c.2.2.2.2.2⟩]) n.1 n.2.1 n.2.2.1 n.2.2.2.1 n.2.2.2.2.1 n.2.2.2.2.2.1 n.2.2.2.2.2.2.1 n.2.2.2.2.2.2.2 (i + 1) else none)
      else (cluster_seen_joins.f a0 a1 a2 a3 a4 a5 a6 a7 b.1 b.2.1 b.2.2.1 b.2.2.2.1 b.2.2.2.2.1 b.2.2.2.2.2).bind fun j =>
        if j = true then (if 0 < out.length then cluster_Of.lp t (out.set (out.length - 1) (cluster_Of.grow (out.getD (out.length - 1) z39) r.f1 r.f2 a3 a5 b.2.2.2.2.1 ((i : Int) + 1))) n.1 n.2.1 n.2.2.1 n.2.2.2.1 n.2.2.2.2.1 n.2.2.2.2.2.1 n.2.2.2.2.2.2.1 n.2.2.2.2.2.2.2 (i + 1) else none)
        else (if out.length < 2932031007402 then (cluster_first.f b.1 b.2.1 b.2.2.1 b.2.2.2.1 b.2.2.2.2.1 b.2.2.2.2.2 (i : Int)).bind fun c => cluster_Of.lp t (out ++ [⟨c.1, c.2.1, c.2.2.1, c.2.2.2.1, c.2.2.2.2.1, c.2.2.2.2.2⟩]) n.1 n.2.1 n.2.2.1 n.2.2.2.1 n.2.2.2.2.1 n.2.2.2.2.2.1 n.2.2.2.2.2.2.1 n.2.2.2.2.2.2.2 (i + 1) else none)
def cluster_Of.f (l0 : List S37) : Option (List S39) := cluster_Of.lp l0 [] 0 0 0 0 0 false 0 0 0
section
open Go.Proofs.YtgbkfjdkejjmpaaH
/-- What is made, in memory. -/
def cluster_Of.St (w0 W : World) (ok : Nat → Prop) (v : Value) (out : List S39) (A : Array Value) : Prop :=
  Kd.R k39 39 W w0.heap.size ok v out ∧ W.heap[w0.heap.size]? = some (.cells A 72 (0, 0)) ∧ Below w0.heap.size w0 W ∧ ∀ k, ok k → k ≠ w0.heap.size
theorem cluster_Of.St_below {w0 W W' : World} {ok : Nat → Prop} {v : Value} {out : List S39} {A : Array Value} (h : cluster_Of.St w0 W ok v out A) (hb : Below W.heap.size W W') : cluster_Of.St w0 W' ok v out A :=
  ⟨Kd.R_below h.1 hb, blk_below h.2.1 hb, below_step h.2.2.1 hb, h.2.2.2⟩
theorem cluster_Of.St_alloc {w0 W W' : World} {ok : Nat → Prop} {v : Value} {out : List S39} {A : Array Value} (h : cluster_Of.St w0 W ok v out A) (hb : Below W.heap.size W W') {g : Nat} (hg : g = W.heap.size) : cluster_Of.St w0 W' (fun k => ok k ∧ k ≠ g) v out A :=
  ⟨Kd.R_below (Kd.R_elderB h.1 g (by omega)) hb, blk_below h.2.1 hb, below_step h.2.2.1 hb, fun k hk => h.2.2.2 k hk.1⟩
theorem cluster_Of.St_put {w0 W W' : World} {ok : Nat → Prop} {v : Value} {out : List S39} {A : Array Value} (h : cluster_Of.St w0 W ok v out A) {g : Nat} (hk : ∀ k, k ≠ g → W'.heap[k]? = W.heap[k]?) (hB : ∀ B w0, Below B w0 W → B ≤ g → Below B w0 W') (hg : w0.heap.size < g) (hok : ∀ k, ok k → k ≠ g) : cluster_Of.St w0 W' ok v out A :=
  ⟨Kd.R_move h.1 (fun k hk2 => hk k (hok k hk2)), (hk _ (by omega)).trans h.2.1, hB _ _ h.2.2.1 (by omega), h.2.2.2⟩
theorem cluster_Of.St_putA {w0 W W' : World} {ok : Nat → Prop} {v : Value} {out : List S39} {A A' : Array Value} (h : cluster_Of.St w0 W ok v out A) (hk : ∀ k, k ≠ w0.heap.size → W'.heap[k]? = W.heap[k]?) (hB : ∀ B w, Below B w W → B ≤ w0.heap.size → Below B w W') (hA : W'.heap[w0.heap.size]? = some (.cells A' 72 (0, 0))) : cluster_Of.St w0 W' ok v out A' :=
  ⟨Kd.R_move h.1 (fun k hk2 => hk k (h.2.2.2 k hk2)), hA, hB _ _ h.2.2.1 (Nat.le_refl _), h.2.2.2⟩
theorem cluster_Of.St_app {w0 W W' : World} {ok : Nat → Prop} {v v' : Value} {out out' : List S39} {A : Array Value} (h : cluster_Of.St w0 W ok v out A) (ho : Kd.R k39 39 W' w0.heap.size ok v' out') (hb : Below w0.heap.size w0 W') (hg : W.grownBy W' v.ownBlock) : cluster_Of.St w0 W' ok v' out' A :=
  ⟨ho, blk_grown h.2.1 hg (Kd.R_away h.1 h.2.2.2), hb, h.2.2.2⟩
theorem cluster_Of.St_weak {w0 W : World} {ok1 ok2 : Nat → Prop} {v : Value} {out : List S39} {A : Array Value} (h : cluster_Of.St w0 W (fun k => (k ≠ w0.heap.size ∧ ok1 k) ∧ ok2 k) v out A) : cluster_Of.St w0 W (fun k => k ≠ w0.heap.size) v out A :=
  ⟨Kd.R_mono h.1 (fun _ hk => hk.1.1), h.2.1, h.2.2.1, fun _ hk => hk⟩
theorem cluster_Of.block_load {P : Program} {ops : Array Oper} {rest : List Oper} {o : Oper} {a : Act} {Q : Exit → Act → World → Prop} {W : World} (hgd : o.guard = none) (t : TypeId) (p : Operand) (ho : o.op = .load t p) {g e : Nat} {cs : Array Value} (hp : a.eval p = .pointer (some ⟨g, 0, none⟩)) (hb : W.heap[g]? = some (.cells cs e (0, 0))) (d : TypeDesc)
    (hu : P.underlying t = some d) (hd : (match d with | .struct _ | .array _ _ => true | _ => false) = true) (hi : (P.info? t).map (·.size) = some cs.size) (hw : wpList P ops Q rest (a.put o.dst (.agg cs)) W) : wpList P ops Q (o :: rest) a W := by
  refine agg_load hgd t p ho ⟨g, 0, none⟩ hp cs.toList d hu hd (by rw [Array.length_toList]; exact hi) (fun j v hj => ?_) hw
  have e : (⟨g, 0, none⟩ : Addr).add j = ⟨g, j, none⟩ := by
    by_cases h0 : j = 0
    · rw [h0]; rfl
    · simp [Addr.add, h0]
  rw [e, blk_cell hb j]
  simpa using hj
theorem cluster_Of.cells3 (a b c : Int) : ∀ q ∈ (Value.agg #[.int .i64 a, .int .i64 b, .int .i64 c]).cells.toList, q.oneCell' = true := fun q hq => by
  have hq' : q ∈ [Value.int .i64 a, .int .i64 b, .int .i64 c] := hq
  simp only [List.mem_cons, List.not_mem_nil, or_false] at hq'
  rcases hq' with rfl | rfl | rfl <;> rfl
theorem cluster_Of.cells6 (a b c d e : Int) (f : Bool) : ∀ q ∈ (Value.agg #[.int .i64 a, .int .i64 b, .int .i64 c, .int .i64 d, .int .i64 e, .bool f]).cells.toList, q.oneCell' = true := fun q hq => by
  have hq' : q ∈ [Value.int .i64 a, .int .i64 b, .int .i64 c, .int .i64 d, .int .i64 e, .bool f] := hq
  simp only [List.mem_cons, List.not_mem_nil, or_false] at hq'
  rcases hq' with rfl | rfl | rfl | rfl | rfl | rfl <;> rfl
theorem cluster_Of.cells8 (a b c d e : Int) (f : Bool) (g h : Int) : ∀ q ∈ (Value.agg #[.int .i64 a, .int .i64 b, .int .i64 c, .int .i64 d, .int .i64 e, .bool f, .int .i64 g, .int .i64 h]).cells.toList, q.oneCell' = true := fun q hq => by
  have hq' : q ∈ [Value.int .i64 a, .int .i64 b, .int .i64 c, .int .i64 d, .int .i64 e, .bool f, .int .i64 g, .int .i64 h] := hq
  simp only [List.mem_cons, List.not_mem_nil, or_false] at hq'
  rcases hq' with rfl | rfl | rfl | rfl | rfl | rfl | rfl | rfl <;> rfl
def cluster_Of.cellsC (x : S39) : List Value := [.int .i64 x.f0, .int .i64 x.f1, .int .i64 x.f2, .int .i64 x.f3, .int .i64 x.f4, .int .i64 x.f5]
/-- A field of an element is written. -/
theorem cluster_Of.fld {W : World} {base g m cap : Nat} {ok : Nat → Prop} {xs : List S39} (h : Kd.R k39 39 W base ok (.slice (some ⟨g, 0, none⟩) m cap) xs) (n : Nat) (hn : n < m) (x' : S39) (j : Nat) (u : Value) (hj : j + 1 ≤ 6)
    (hc : cluster_Of.cellsC x' = (cluster_Of.cellsC (xs.getD n z39)).take j ++ [u] ++ (cluster_Of.cellsC (xs.getD n z39)).drop (j + 1)) :
    Kd.R k39 39 (W.setCell ⟨g, n * 6 + j, none⟩ u) base ok (.slice (some ⟨g, 0, none⟩) m cap) (xs.set n x') ∧ W.grownBy (W.setCell ⟨g, n * 6 + j, none⟩ u) (some g) := by
  obtain ⟨c, hcl, hM, hcc, hfr⟩ := Kd.R_elem h z39 (n : Int) (by omega) (by omega)
  obtain rfl := k39_openM hM
  have hx : ([.int .i64 (xs.getD ((n : Int).toNat) z39).f0, .int .i64 (xs.getD ((n : Int).toNat) z39).f1, .int .i64 (xs.getD ((n : Int).toNat) z39).f2, .int .i64 (xs.getD ((n : Int).toNat) z39).f3, .int .i64 (xs.getD ((n : Int).toNat) z39).f4, .int .i64 (xs.getD ((n : Int).toNat) z39).f5] : List Value) = cluster_Of.cellsC (xs.getD n z39) := rfl
  rw [hx] at hcl hcc
  exact Kd.R_seg (d := k39) h (n : Int) (by omega) (by omega) (j := j) (seg := [u]) (x' := x') (okp := fun _ => False) hcl hcc hj (by show k39.M W base _ x' ((cluster_Of.cellsC (xs.getD n z39)).take j ++ [u] ++ (cluster_Of.cellsC (xs.getD n z39)).drop (j + 1)); rw [← hc]; exact k39_mkM _ _ _ x') (fun _ hk => hk.elim)
theorem cluster_Of.cell_at {W : World} {base g m cap : Nat} {ok : Nat → Prop} {xs : List S39} (h : Kd.R k39 39 W base ok (.slice (some ⟨g, 0, none⟩) m cap) xs) (n : Nat) (hn : n < m) :
    (∀ j u, (cluster_Of.cellsC (xs.getD n z39))[j]? = some u → W.cell? ⟨g, n * 6 + j, none⟩ = some u) ∧ ∀ j, W.frozen? ⟨g, n * 6 + j, none⟩ = false := by
  obtain ⟨c, hcl, hM, hcc, hfr⟩ := Kd.R_elem h z39 (n : Int) (by omega) (by omega)
  obtain rfl := k39_openM hM
  exact ⟨hcc, hfr⟩
theorem cluster_Of.St_drew {w0 W : World} {ok : Nat → Prop} {v : Value} {out : List S39} {A : Array Value} (h : cluster_Of.St w0 W ok v out A) : cluster_Of.St w0 W.drew ok v out A :=
  cluster_Of.St_below h (below_drew (Below.refl _ _))
theorem cluster_Of.St_fld {w0 W : World} {ok : Nat → Prop} {g M cap : Nat} {out : List S39} {A : Array Value} (h : cluster_Of.St w0 W ok (.slice (some ⟨g, 0, none⟩) M cap) out A) (n : Nat) (hn : n < M) (x' : S39) (j : Nat) (u : Value) (hj : j + 1 ≤ 6)
    (hc : cluster_Of.cellsC x' = (cluster_Of.cellsC (out.getD n z39)).take j ++ [u] ++ (cluster_Of.cellsC (out.getD n z39)).drop (j + 1)) :
    cluster_Of.St w0 (W.setCell ⟨g, n * 6 + j, none⟩ u) ok (.slice (some ⟨g, 0, none⟩) M cap) (out.set n x') A := by
  obtain ⟨h1, h2⟩ := cluster_Of.fld h.1 n hn x' j u hj hc
  exact ⟨h1, blk_grown h.2.1 h2 (Kd.R_away h.1 h.2.2.2), h.2.2.1.setCell (Kd.R_base h.1 g rfl) _, h.2.2.2⟩
theorem cluster_Of.get_set (out : List S39) (n : Nat) (x : S39) (hn : n < out.length) : (out.set n x).getD n z39 = x := by
  rw [List.getD_eq_getElem?_getD, List.getElem?_set_self hn]
  rfl
set_option maxHeartbeats 8000000 in
set_option maxRecDepth 100000 in
theorem cluster_Of.calls (A0 : Option Addr) (q0 : Nat) (l0 : List S37) (xs : List S39) (w : World) (hr0 : Kd.C k37 w A0 l0.length l0) (hq0 : l0.length ≤ q0) (h : cluster_Of.f l0 = some xs) :
    Calls Try.prog 31 #[.slice A0 l0.length q0] w fun e w' => ∃ v, e = .returned v ∧ Kd.R k39 39 w' w.heap.size (fun _ => True) v xs ∧ Below w.heap.size w w' := by
  have hn : l0.length ≤ 9223372036854775807 := hr0.2.1
  have hu1 := Try.underlying37
  have hu2 := Try.underlying72
  have hu3 := Try.underlying70
  have hu4 := Try.underlying39
  have HR0 := Aside0.mk hr0
  have HH := Aside0.mk h
  clear hr0 hq0 h
  have HB := Aside0.mk (Below.refl w.heap.size w)
  go_enter Try.func31, Try.ntmps31
  go_wp2
  have HS := Aside0.mk (show cluster_Of.St w (w.alloc (.cells #[.int .i64 0, .int .i64 0, .int .i64 0, .int .i64 0, .int .i64 0, .bool false, .int .i64 0, .int .i64 0] 72)) (fun k => k ≠ w.heap.size) (.slice none 0 0) [] #[.int .i64 0, .int .i64 0, .int .i64 0, .int .i64 0, .int .i64 0, .bool false, .int .i64 0, .int .i64 0] from ⟨Kd.R_nil _ _ _ _ _, blk_new _ _, below_alloc HB.out _, fun _ hk => hk⟩)
  go_loopg [3, 11] l0.length (fun kq v3 v11 w' => ∃ (i : Nat) (out : List S39) (a0 a1 a2 a3 a4 : Int) (a5 : Bool) (a6 a7 : Int), v11 = .int .i64 (i : Int) ∧ i ≤ l0.length ∧ l0.length - i ≤ kq ∧ Aside0 (cluster_Of.lp (l0.drop i) out a0 a1 a2 a3 a4 a5 a6 a7 i = some xs) ∧ Aside0 (cluster_Of.St w w' (fun k => k ≠ w.heap.size) v3 out #[.int .i64 a0, .int .i64 a1, .int .i64 a2, .int .i64 a3, .int .i64 a4, .bool a5, .int .i64 a6, .int .i64 a7]))
  case atStart => exact ⟨0, [], 0, 0, 0, 0, 0, false, 0, 0, rfl, Nat.zero_le _, by omega, ⟨by rw [List.drop_zero]; exact HH.out⟩, HS⟩
  case round =>
    clear HS HB HH
    obtain ⟨i, out, a0, a1, a2, a3, a4, a5, a6, a7, rfl, hi, hq, HA, HS⟩ := hrel
    by_cases hlt : i < l0.length
    · have H := HA.out
      clear HA
      rw [List.drop_eq_getElem_cons hlt] at H
      have hrd : rd_T37 l0 (i : Int) = l0[i] := by
        unfold rd_T37
        simp [List.getD_eq_getElem?_getD, hlt]
      rw [← hrd] at H
      obtain ⟨ad, e1, hx0, hx1, hx2⟩ := at_T37 HR0.out (i : Int) (by omega) (by omega)
      cases e1
      simp only [Int.toNat_natCast] at hx0 hx1 hx2
      have hb0 := HS.out.2.2.1
      replace hx0 := (hb0.cell (World.block_lt_of_cell? w _ hx0)).trans hx0
      replace hx1 := (hb0.cell (World.block_lt_of_cell? w _ hx1)).trans hx1
      replace hx2 := (hb0.cell (World.block_lt_of_cell? w _ hx2)).trans hx2
      clear hb0 hrd
      generalize rd_T37 l0 (i : Int) = r at *
      obtain ⟨r0, r1, r2⟩ := r
      simp only [cluster_Of.lp] at H
      obtain ⟨b, hsee, H⟩ := Option.bind_eq_some_iff.1 H
      obtain ⟨b0, b1, b2, b3, b4, b5⟩ := b
      obtain ⟨nn, hthen, H⟩ := Option.bind_eq_some_iff.1 H
      obtain ⟨n0, n1, n2, n3, n4, n5, n6, n7⟩ := nn
      have HSEE := Aside0.mk hsee
      have HT := Aside0.mk hthen
      clear hsee hthen
      dsimp only at H
      obtain ⟨ii, hii⟩ : ∃ z : Int, z = (i : Int) := ⟨_, rfl⟩
      have hi0 : 0 ≤ ii := by omega
      have hi1 : ii < (l0.length : Int) := by omega
      rw [← hii] at H ⊢
      dsimp only at hx0 hx1 hx2
      have HII := Aside0.mk hii
      have hin : (i : Nat) = ii.toNat := by omega
      rw [hin] at hx0 hx1 hx2
      clear hii hin
      have hi0e := eq_true hi0
      have hi1e := eq_true hi1
      by_cases hz : i = 0
      · rw [if_pos hz] at H
        have hzb : (ii == 0) = true := beq_iff_eq.2 (by have := HII.out; omega)
        by_cases hL : out.length < 2932031007402
        · rw [if_pos hL] at H
          have HL := Aside0.mk hL
          clear hL hz
          obtain ⟨c, hf, H⟩ := Option.bind_eq_some_iff.1 H
          obtain ⟨c0, c1, c2, c3, c4, c5⟩ := c
          have HF := Aside0.mk hf
          have HH := Aside0.mk H
          clear hf H
          go_wp2_with (first | ((with_reducible refine gate_dst (N := 6) rfl ?_); refine alloc_event rfl 37 rfl 3 (by kernel_rfl) ?_; intro g6 w1 cs6 hcs hg hb hbel hsz; have n0_ := Aside0.mk (cluster_Of.St_alloc HS.out hbel hg); have G6 := Aside0.mk (show w.heap.size < g6 by rw [hg]; exact blk_lt HS.out.2.1); have K6 := Aside0.mk hb; have C6 := Aside0.mk hcs; clear HS hcs hg hb hbel hsz; have HS := n0_; clear n0_) | ((with_reducible refine gate_store (t := 37) (p := 6) (v := .tmp 15) rfl ?_); refine block_store rfl rfl 37 (.tmp 6) (.tmp 15) rfl rfl (.agg #[.int .i64 r0, .int .i64 r1, .int .i64 r2]) rfl K6.out (by rw [C6.out]; rfl) (by rw [C6.out]; kernel_rfl) (cluster_Of.cells3 r0 r1 r2) ?_; intro w2 hb hk hs hB; have n0_ := Aside0.mk (cluster_Of.St_put HS.out hk hB G6.out (fun k hk => hk.2)); have n1_ := Aside0.mk hb; clear HS K6 C6 hb hk hs hB; have HS := n0_; have K6 := n1_; clear n0_ n1_) | ((with_reducible refine gate_dst (N := 16) rfl ?_); refine cluster_Of.block_load rfl 37 (.tmp 6) rfl rfl K6.out _ Try.underlying37 rfl (by kernel_rfl) ?_) | (go_at_call 56; (with_reducible refine (cluster_see.calls r0 r1 r2 b0 b1 b2 b3 b4 b5 _ HSEE.out).mono ?_); rintro e w3 ⟨rfl, hb⟩; have n0_ := Aside0.mk (cluster_Of.St_below HS.out hb); have n1_ := Aside0.mk (blk_below K6.out hb); clear HS hb K6; have HS := n0_; have K6 := n1_; clear n0_ n1_) | ((with_reducible refine gate_dst (N := 7) rfl ?_); refine alloc_event rfl 70 rfl 6 (by kernel_rfl) ?_; intro g7 w4 cs7 hcs hg hb hbel hsz; have n0_ := Aside0.mk (cluster_Of.St_alloc HS.out hbel hg); have G7 := Aside0.mk (show w.heap.size < g7 ∧ g6 < g7 by rw [hg]; exact ⟨blk_lt HS.out.2.1, blk_lt K6.out⟩); have n1_ := Aside0.mk (blk_below K6.out hbel); have K7 := Aside0.mk hb; have C7 := Aside0.mk hcs; clear HS K6 hcs hg hb hbel hsz; have HS := n0_; have K6 := n1_; clear n0_ n1_) | ((with_reducible refine gate_store (t := 70) (p := 7) (v := .tmp 17) rfl ?_); refine block_store rfl rfl 70 (.tmp 7) (.tmp 17) rfl rfl (.agg #[.int .i64 b0, .int .i64 b1, .int .i64 b2, .int .i64 b3, .int .i64 b4, .bool b5]) rfl K7.out (by rw [C7.out]; rfl) (by rw [C7.out]; kernel_rfl) (cluster_Of.cells6 b0 b1 b2 b3 b4 b5) ?_; intro w5 hb hk hs hB; have n0_ := Aside0.mk (cluster_Of.St_put HS.out hk hB G7.out.1 (fun k hk => hk.2)); have n1_ := Aside0.mk hb; have n2_ := Aside0.mk ((hk g6 (by have := G7.out.2; omega)).trans K6.out); clear HS K6 K7 C7 hb hk hs hB; have HS := n0_; have K7 := n1_; have K6 := n2_; clear n0_ n1_ n2_) | ((with_reducible refine gate_dst (N := 27) rfl ?_); refine cluster_Of.block_load rfl 70 (.tmp 7) rfl rfl K7.out _ Try.underlying70 rfl (by kernel_rfl) ?_) | (go_at_call 58; (with_reducible refine (cluster_first.calls b0 b1 b2 b3 b4 b5 ii c0 c1 c2 c3 c4 c5 _ HF.out).mono ?_); rintro e w7 ⟨rfl, hb⟩; have n0_ := Aside0.mk (cluster_Of.St_below HS.out hb); have n1_ := Aside0.mk (blk_below K6.out hb); have n2_ := Aside0.mk (blk_below K7.out hb); clear HS hb K6 K7; have HS := n0_; have K6 := n1_; have K7 := n2_; clear n0_ n1_ n2_) | ((with_reducible refine gate_builtin (b := .append) (xs := #[.tmp 26, .tmp 30]) rfl ?_); at_builtin; refine Kd.R_append k39 (w0 := w) w.heap.size rfl (.tmp 26) (.tmp 30) 34 39 (.agg #[(.int .i64 0), (.int .i64 0), (.int .i64 0), (.int .i64 0), (.int .i64 0), (.int .i64 0)]) 48 rfl Try.underlying34 info39 rfl (by decide) (by omega) _ out (⟨c0, c1, c2, c3, c4, c5⟩ : S39) [.int .i64 c0, .int .i64 c1, .int .i64 c2, .int .i64 c3, .int .i64 c4, .int .i64 c5] (fun k => (k ≠ w.heap.size ∧ k ≠ g6) ∧ k ≠ g7) (fun _ => False) rfl rfl (k39_mkM _ _ _ (⟨c0, c1, c2, c3, c4, c5⟩ : S39)) (fun _ hk => hk.elim) (fun k hk => ⟨⟨by have := blk_lt HS.out.2.1; omega, by have := blk_lt K6.out; omega⟩, by have := blk_lt K7.out; omega⟩) HS.out.1 HS.out.2.2.1 HS.out.2.2.1.size (by have := HL.out; omega) ?_; intro v8 w8 ho hb hg hat; have n0_ := Aside0.mk (cluster_Of.St_app HS.out ho hb hg); have n1_ := Aside0.mk (blk_grown K6.out hg (Kd.R_away HS.out.1 (fun k hk => hk.1.2))); have n2_ := Aside0.mk (blk_grown K7.out hg (Kd.R_away HS.out.1 (fun k hk => hk.2))); clear HS K6 K7 ho hb hg hat; have HS := n0_; have K6 := n1_; have K7 := n2_; clear n0_ n1_ n2_) | ((with_reducible refine gate_dst (N := 32) rfl ?_); refine cluster_Of.block_load rfl 72 (.tmp 4) rfl rfl HS.out.2.1 _ Try.underlying72 rfl (by kernel_rfl) ?_) | ((with_reducible refine gate_dst (N := 33) rfl ?_); refine cluster_Of.block_load rfl 70 (.tmp 7) rfl rfl K7.out _ Try.underlying70 rfl (by kernel_rfl) ?_) | (go_at_call 59; (with_reducible refine (cluster_seen_then.calls a0 a1 a2 a3 a4 a5 a6 a7 b0 b1 b2 b3 b4 b5 n0 n1 n2 n3 n4 n5 n6 n7 _ HT.out).mono ?_); rintro e w9 ⟨rfl, hb⟩; have n0_ := Aside0.mk (cluster_Of.St_below HS.out hb); have n1_ := Aside0.mk (blk_below K6.out hb); have n2_ := Aside0.mk (blk_below K7.out hb); clear HS hb K6 K7; have HS := n0_; have K6 := n1_; have K7 := n2_; clear n0_ n1_ n2_) | ((with_reducible refine gate_store (t := 72) (p := 4) (v := .tmp 34) rfl ?_); refine block_store rfl rfl 72 (.tmp 4) (.tmp 34) rfl rfl (.agg #[.int .i64 n0, .int .i64 n1, .int .i64 n2, .int .i64 n3, .int .i64 n4, .bool n5, .int .i64 n6, .int .i64 n7]) rfl HS.out.2.1 rfl (by kernel_rfl) (cluster_Of.cells8 n0 n1 n2 n3 n4 n5 n6 n7) ?_; intro w10 hb hk hs hB; have n0_ := Aside0.mk (cluster_Of.St_putA HS.out hk hB hb); clear HS hb hk hs hB; have HS := n0_; clear n0_))
          go_roundg (l0.length - (i + 1))
          case measure => omega
          case rel => exact ⟨i + 1, _, n0, n1, n2, n3, n4, n5, n6, n7, by rw [HII.out]; go_num, by omega, Nat.le_refl _, HH, ⟨cluster_Of.St_weak HS.out⟩⟩
        · rw [if_neg hL] at H
          cases H
      · rw [if_neg hz] at H
        have hzb : (ii == 0) = false := beq_eq_false_iff_ne.2 (by have := HII.out; omega)
        obtain ⟨jj, hj, H⟩ := Option.bind_eq_some_iff.1 H
        have HJ := Aside0.mk hj
        clear hj
        cases jj with
        | false =>
          rw [if_neg (by decide)] at H
          by_cases hL : out.length < 2932031007402
          · rw [if_pos hL] at H
            have HL := Aside0.mk hL
            clear hL hz
            obtain ⟨c, hf, H⟩ := Option.bind_eq_some_iff.1 H
            obtain ⟨c0, c1, c2, c3, c4, c5⟩ := c
            have HF := Aside0.mk hf
            have HH := Aside0.mk H
            clear hf H
            go_wp2_with (first | ((with_reducible refine gate_dst (N := 6) rfl ?_); refine alloc_event rfl 37 rfl 3 (by kernel_rfl) ?_; intro g6 w1 cs6 hcs hg hb hbel hsz; have n0_ := Aside0.mk (cluster_Of.St_alloc HS.out hbel hg); have G6 := Aside0.mk (show w.heap.size < g6 by rw [hg]; exact blk_lt HS.out.2.1); have K6 := Aside0.mk hb; have C6 := Aside0.mk hcs; clear HS hcs hg hb hbel hsz; have HS := n0_; clear n0_) | ((with_reducible refine gate_store (t := 37) (p := 6) (v := .tmp 15) rfl ?_); refine block_store rfl rfl 37 (.tmp 6) (.tmp 15) rfl rfl (.agg #[.int .i64 r0, .int .i64 r1, .int .i64 r2]) rfl K6.out (by rw [C6.out]; rfl) (by rw [C6.out]; kernel_rfl) (cluster_Of.cells3 r0 r1 r2) ?_; intro w2 hb hk hs hB; have n0_ := Aside0.mk (cluster_Of.St_put HS.out hk hB G6.out (fun k hk => hk.2)); have n1_ := Aside0.mk hb; clear HS K6 C6 hb hk hs hB; have HS := n0_; have K6 := n1_; clear n0_ n1_) | ((with_reducible refine gate_dst (N := 16) rfl ?_); refine cluster_Of.block_load rfl 37 (.tmp 6) rfl rfl K6.out _ Try.underlying37 rfl (by kernel_rfl) ?_) | (go_at_call 56; (with_reducible refine (cluster_see.calls r0 r1 r2 b0 b1 b2 b3 b4 b5 _ HSEE.out).mono ?_); rintro e w3 ⟨rfl, hb⟩; have n0_ := Aside0.mk (cluster_Of.St_below HS.out hb); have n1_ := Aside0.mk (blk_below K6.out hb); clear HS hb K6; have HS := n0_; have K6 := n1_; clear n0_ n1_) | ((with_reducible refine gate_dst (N := 7) rfl ?_); refine alloc_event rfl 70 rfl 6 (by kernel_rfl) ?_; intro g7 w4 cs7 hcs hg hb hbel hsz; have n0_ := Aside0.mk (cluster_Of.St_alloc HS.out hbel hg); have G7 := Aside0.mk (show w.heap.size < g7 ∧ g6 < g7 by rw [hg]; exact ⟨blk_lt HS.out.2.1, blk_lt K6.out⟩); have n1_ := Aside0.mk (blk_below K6.out hbel); have K7 := Aside0.mk hb; have C7 := Aside0.mk hcs; clear HS K6 hcs hg hb hbel hsz; have HS := n0_; have K6 := n1_; clear n0_ n1_) | ((with_reducible refine gate_store (t := 70) (p := 7) (v := .tmp 17) rfl ?_); refine block_store rfl rfl 70 (.tmp 7) (.tmp 17) rfl rfl (.agg #[.int .i64 b0, .int .i64 b1, .int .i64 b2, .int .i64 b3, .int .i64 b4, .bool b5]) rfl K7.out (by rw [C7.out]; rfl) (by rw [C7.out]; kernel_rfl) (cluster_Of.cells6 b0 b1 b2 b3 b4 b5) ?_; intro w5 hb hk hs hB; have n0_ := Aside0.mk (cluster_Of.St_put HS.out hk hB G7.out.1 (fun k hk => hk.2)); have n1_ := Aside0.mk hb; have n2_ := Aside0.mk ((hk g6 (by have := G7.out.2; omega)).trans K6.out); clear HS K6 K7 C7 hb hk hs hB; have HS := n0_; have K7 := n1_; have K6 := n2_; clear n0_ n1_ n2_; have ca0 := (blk_cell HS.out.2.1 0).trans rfl; have ca1 := (blk_cell HS.out.2.1 1).trans rfl; have ca2 := (blk_cell HS.out.2.1 2).trans rfl; have ca3 := (blk_cell HS.out.2.1 3).trans rfl; have ca4 := (blk_cell HS.out.2.1 4).trans rfl; have ca5 := (blk_cell HS.out.2.1 5).trans rfl; have ca6 := (blk_cell HS.out.2.1 6).trans rfl; have ca7 := (blk_cell HS.out.2.1 7).trans rfl; have cb0 := (blk_cell K7.out 0).trans rfl; have cb1 := (blk_cell K7.out 1).trans rfl; have cb2 := (blk_cell K7.out 2).trans rfl; have cb3 := (blk_cell K7.out 3).trans rfl; have cb4 := (blk_cell K7.out 4).trans rfl; have cb5 := (blk_cell K7.out 5).trans rfl) | (go_at_call 57; (with_reducible refine (cluster_seen_joins.calls a0 a1 a2 a3 a4 a5 a6 a7 b0 b1 b2 b3 b4 b5 false _ HJ.out).mono ?_); rintro e w6 ⟨rfl, hb⟩; have n0_ := Aside0.mk (cluster_Of.St_below HS.out hb); have n1_ := Aside0.mk (blk_below K6.out hb); have n2_ := Aside0.mk (blk_below K7.out hb); clear HS hb K6 K7; have HS := n0_; have K6 := n1_; have K7 := n2_; clear n0_ n1_ n2_; clear ca0 ca1 ca2 ca3 ca4 ca5 ca6 ca7 cb0 cb1 cb2 cb3 cb4 cb5) | ((with_reducible refine gate_dst (N := 27) rfl ?_); refine cluster_Of.block_load rfl 70 (.tmp 7) rfl rfl K7.out _ Try.underlying70 rfl (by kernel_rfl) ?_) | (go_at_call 58; (with_reducible refine (cluster_first.calls b0 b1 b2 b3 b4 b5 ii c0 c1 c2 c3 c4 c5 _ HF.out).mono ?_); rintro e w7 ⟨rfl, hb⟩; have n0_ := Aside0.mk (cluster_Of.St_below HS.out hb); have n1_ := Aside0.mk (blk_below K6.out hb); have n2_ := Aside0.mk (blk_below K7.out hb); clear HS hb K6 K7; have HS := n0_; have K6 := n1_; have K7 := n2_; clear n0_ n1_ n2_) | ((with_reducible refine gate_builtin (b := .append) (xs := #[.tmp 26, .tmp 30]) rfl ?_); at_builtin; refine Kd.R_append k39 (w0 := w) w.heap.size rfl (.tmp 26) (.tmp 30) 34 39 (.agg #[(.int .i64 0), (.int .i64 0), (.int .i64 0), (.int .i64 0), (.int .i64 0), (.int .i64 0)]) 48 rfl Try.underlying34 info39 rfl (by decide) (by omega) _ out (⟨c0, c1, c2, c3, c4, c5⟩ : S39) [.int .i64 c0, .int .i64 c1, .int .i64 c2, .int .i64 c3, .int .i64 c4, .int .i64 c5] (fun k => (k ≠ w.heap.size ∧ k ≠ g6) ∧ k ≠ g7) (fun _ => False) rfl rfl (k39_mkM _ _ _ (⟨c0, c1, c2, c3, c4, c5⟩ : S39)) (fun _ hk => hk.elim) (fun k hk => ⟨⟨by have := blk_lt HS.out.2.1; omega, by have := blk_lt K6.out; omega⟩, by have := blk_lt K7.out; omega⟩) HS.out.1 HS.out.2.2.1 HS.out.2.2.1.size (by have := HL.out; omega) ?_; intro v8 w8 ho hb hg hat; have n0_ := Aside0.mk (cluster_Of.St_app HS.out ho hb hg); have n1_ := Aside0.mk (blk_grown K6.out hg (Kd.R_away HS.out.1 (fun k hk => hk.1.2))); have n2_ := Aside0.mk (blk_grown K7.out hg (Kd.R_away HS.out.1 (fun k hk => hk.2))); clear HS K6 K7 ho hb hg hat; have HS := n0_; have K6 := n1_; have K7 := n2_; clear n0_ n1_ n2_) | ((with_reducible refine gate_dst (N := 32) rfl ?_); refine cluster_Of.block_load rfl 72 (.tmp 4) rfl rfl HS.out.2.1 _ Try.underlying72 rfl (by kernel_rfl) ?_) | ((with_reducible refine gate_dst (N := 33) rfl ?_); refine cluster_Of.block_load rfl 70 (.tmp 7) rfl rfl K7.out _ Try.underlying70 rfl (by kernel_rfl) ?_) | (go_at_call 59; (with_reducible refine (cluster_seen_then.calls a0 a1 a2 a3 a4 a5 a6 a7 b0 b1 b2 b3 b4 b5 n0 n1 n2 n3 n4 n5 n6 n7 _ HT.out).mono ?_); rintro e w9 ⟨rfl, hb⟩; have n0_ := Aside0.mk (cluster_Of.St_below HS.out hb); have n1_ := Aside0.mk (blk_below K6.out hb); have n2_ := Aside0.mk (blk_below K7.out hb); clear HS hb K6 K7; have HS := n0_; have K6 := n1_; have K7 := n2_; clear n0_ n1_ n2_) | ((with_reducible refine gate_store (t := 72) (p := 4) (v := .tmp 34) rfl ?_); refine block_store rfl rfl 72 (.tmp 4) (.tmp 34) rfl rfl (.agg #[.int .i64 n0, .int .i64 n1, .int .i64 n2, .int .i64 n3, .int .i64 n4, .bool n5, .int .i64 n6, .int .i64 n7]) rfl HS.out.2.1 rfl (by kernel_rfl) (cluster_Of.cells8 n0 n1 n2 n3 n4 n5 n6 n7) ?_; intro w10 hb hk hs hB; have n0_ := Aside0.mk (cluster_Of.St_putA HS.out hk hB hb); clear HS hb hk hs hB; have HS := n0_; clear n0_))
            go_roundg (l0.length - (i + 1))
            case measure => omega
            case rel => exact ⟨i + 1, _, n0, n1, n2, n3, n4, n5, n6, n7, by rw [HII.out]; go_num, by omega, Nat.le_refl _, HH, ⟨cluster_Of.St_weak HS.out⟩⟩
          · rw [if_neg hL] at H
            cases H
        | true =>
          rw [if_pos rfl] at H
          by_cases hp : 0 < out.length
          · rw [if_pos hp] at H
            obtain ⟨m, hm⟩ : ∃ m, out.length = m + 1 := ⟨out.length - 1, by omega⟩
            obtain ⟨g3, q3, rfl, hgb, hgl, hty⟩ := Kd.R_form HS.out.1 hp
            clear hgb hgl hty
            rw [hm] at H HS ⊢
            rw [Nat.add_sub_cancel] at H
            have HM := Aside0.mk hm
            have HH := Aside0.mk H
            clear H hm hp hz
            have hwr : IntKind.i64.wrap (m : Int) = (m : Int) := by have := (Kd.R_reads' HS.out.1).2.2.2.1; have := HM.out; rw [IntKind.wrap_i64]; omega
            go_upto_region 11 with (first | ((with_reducible refine gate_dst (N := 6) rfl ?_); refine alloc_event rfl 37 rfl 3 (by kernel_rfl) ?_; intro g6 w1 cs6 hcs hg hb hbel hsz; have n0_ := Aside0.mk (cluster_Of.St_alloc HS.out hbel hg); have G6 := Aside0.mk (show w.heap.size < g6 by rw [hg]; exact blk_lt HS.out.2.1); have K6 := Aside0.mk hb; have C6 := Aside0.mk hcs; clear HS hcs hg hb hbel hsz; have HS := n0_; clear n0_) | ((with_reducible refine gate_store (t := 37) (p := 6) (v := .tmp 15) rfl ?_); refine block_store rfl rfl 37 (.tmp 6) (.tmp 15) rfl rfl (.agg #[.int .i64 r0, .int .i64 r1, .int .i64 r2]) rfl K6.out (by rw [C6.out]; rfl) (by rw [C6.out]; kernel_rfl) (cluster_Of.cells3 r0 r1 r2) ?_; intro w2 hb hk hs hB; have n0_ := Aside0.mk (cluster_Of.St_put HS.out hk hB G6.out (fun k hk => hk.2)); have n1_ := Aside0.mk hb; clear HS K6 C6 hb hk hs hB; have HS := n0_; have K6 := n1_; clear n0_ n1_) | ((with_reducible refine gate_dst (N := 16) rfl ?_); refine cluster_Of.block_load rfl 37 (.tmp 6) rfl rfl K6.out _ Try.underlying37 rfl (by kernel_rfl) ?_) | (go_at_call 56; (with_reducible refine (cluster_see.calls r0 r1 r2 b0 b1 b2 b3 b4 b5 _ HSEE.out).mono ?_); rintro e w3 ⟨rfl, hb⟩; have n0_ := Aside0.mk (cluster_Of.St_below HS.out hb); have n1_ := Aside0.mk (blk_below K6.out hb); clear HS hb K6; have HS := n0_; have K6 := n1_; clear n0_ n1_) | ((with_reducible refine gate_dst (N := 7) rfl ?_); refine alloc_event rfl 70 rfl 6 (by kernel_rfl) ?_; intro g7 w4 cs7 hcs hg hb hbel hsz; have n0_ := Aside0.mk (cluster_Of.St_alloc HS.out hbel hg); have G7 := Aside0.mk (show w.heap.size < g7 ∧ g6 < g7 by rw [hg]; exact ⟨blk_lt HS.out.2.1, blk_lt K6.out⟩); have n1_ := Aside0.mk (blk_below K6.out hbel); have K7 := Aside0.mk hb; have C7 := Aside0.mk hcs; clear HS K6 hcs hg hb hbel hsz; have HS := n0_; have K6 := n1_; clear n0_ n1_) | ((with_reducible refine gate_store (t := 70) (p := 7) (v := .tmp 17) rfl ?_); refine block_store rfl rfl 70 (.tmp 7) (.tmp 17) rfl rfl (.agg #[.int .i64 b0, .int .i64 b1, .int .i64 b2, .int .i64 b3, .int .i64 b4, .bool b5]) rfl K7.out (by rw [C7.out]; rfl) (by rw [C7.out]; kernel_rfl) (cluster_Of.cells6 b0 b1 b2 b3 b4 b5) ?_; intro w5 hb hk hs hB; have n0_ := Aside0.mk (cluster_Of.St_put HS.out hk hB G7.out.1 (fun k hk => hk.2)); have n1_ := Aside0.mk hb; have n2_ := Aside0.mk ((hk g6 (by have := G7.out.2; omega)).trans K6.out); clear HS K6 K7 C7 hb hk hs hB; have HS := n0_; have K7 := n1_; have K6 := n2_; clear n0_ n1_ n2_; have ca0 := (blk_cell HS.out.2.1 0).trans rfl; have ca1 := (blk_cell HS.out.2.1 1).trans rfl; have ca2 := (blk_cell HS.out.2.1 2).trans rfl; have ca3 := (blk_cell HS.out.2.1 3).trans rfl; have ca4 := (blk_cell HS.out.2.1 4).trans rfl; have ca5 := (blk_cell HS.out.2.1 5).trans rfl; have ca6 := (blk_cell HS.out.2.1 6).trans rfl; have ca7 := (blk_cell HS.out.2.1 7).trans rfl; have cb0 := (blk_cell K7.out 0).trans rfl; have cb1 := (blk_cell K7.out 1).trans rfl; have cb2 := (blk_cell K7.out 2).trans rfl; have cb3 := (blk_cell K7.out 3).trans rfl; have cb4 := (blk_cell K7.out 4).trans rfl; have cb5 := (blk_cell K7.out 5).trans rfl) | (go_at_call 57; (with_reducible refine (cluster_seen_joins.calls a0 a1 a2 a3 a4 a5 a6 a7 b0 b1 b2 b3 b4 b5 true _ HJ.out).mono ?_); rintro e w6 ⟨rfl, hb⟩; have n0_ := Aside0.mk (cluster_Of.St_below HS.out hb); have n1_ := Aside0.mk (blk_below K6.out hb); have n2_ := Aside0.mk (blk_below K7.out hb); clear HS hb K6 K7; have HS := n0_; have K6 := n1_; have K7 := n2_; clear n0_ n1_ n2_; clear ca0 ca1 ca2 ca3 ca4 ca5 ca6 ca7 cb0 cb1 cb2 cb3 cb4 cb5))
            obtain ⟨hcl, hfr⟩ := cluster_Of.cell_at HS.out.1 m (by omega)
            have hf1 := hfr 1
            have hf3 := hfr 3
            have hc1 := hcl 1 _ rfl
            have hc3 := hcl 3 _ rfl
            have h61 := (blk_cell K6.out 1).trans rfl
            clear hcl hfr
            generalize hc : out.getD m z39 = c at *
            obtain ⟨c0, c1, c2, c3, c4, c5⟩ := c
            have HC := Aside0.mk hc
            clear hc
            dsimp only at hc1 hc3
            (try simp only [Act.put, List.setIfInBounds_toArray, List.set_cons_zero, List.set_cons_succ])
            refine start_ (n := 17) (S := fun w' => w'.cell? ⟨g3, m * 6 + 1, none⟩ = some (.int .i64 c1) ∧ w'.cell? ⟨g6, 1, none⟩ = some (.int .i64 r1)) (ds := [13, 16]) #[false, false, false, false, false, false, false, false, false, false, false, false, false, false, false, false, false] (by kernel_rfl) rfl rfl ⟨hc1, h61⟩ (fun hHeld => ?_)
            refine pure_ (i := 0) (N := some 40) (v := ?_) (a' := ?_) #[true, false, false, false, false, false, false, false, false, false, false, false, false, false, false, false, false] rfl rfl (by kernel_rfl) (fun _ _ _ h => h) (Or.inl ⟨by rfl, ?_⟩) ?_ ?_
            rotate_left
            · intro w'
              go_simp
              with_reducible rfl
            rotate_left
            · simp only [Act.put, List.setIfInBounds_toArray, List.set_cons_zero, List.set_cons_succ, i64_w, i32_w]
              rfl
            refine pure_ (i := 1) (N := some 41) (v := ?_) (a' := ?_) #[true, true, false, false, false, false, false, false, false, false, false, false, false, false, false, false, false] rfl rfl (by kernel_rfl) (fun _ _ _ h => h) (Or.inl ⟨by rfl, ?_⟩) ?_ ?_
            rotate_left
            · intro w'
              go_simp
              with_reducible rfl
            rotate_left
            · simp only [Act.put, List.setIfInBounds_toArray, List.set_cons_zero, List.set_cons_succ, i64_w, i32_w]
              rfl
            refine pure_ (i := 2) (N := some 42) (v := ?_) (a' := ?_) #[true, true, true, false, false, false, false, false, false, false, false, false, false, false, false, false, false] rfl rfl (by kernel_rfl) (fun _ _ _ h => h) (Or.inl ⟨by rfl, ?_⟩) ?_ ?_
            rotate_left
            · intro w'
              go_simp
              with_reducible rfl
            rotate_left
            · simp only [Act.put, List.setIfInBounds_toArray, List.set_cons_zero, List.set_cons_succ, i64_w, i32_w]
              rfl
            refine pure_ (i := 3) (N := some 43) (v := ?_) (a' := ?_) #[true, true, true, true, false, false, false, false, false, false, false, false, false, false, false, false, false] rfl rfl (by kernel_rfl) (fun _ _ _ h => h) (Or.inl ⟨by rfl, ?_⟩) ?_ ?_
            rotate_left
            · intro w'
              go_simp
              with_reducible rfl
            rotate_left
            · simp only [Act.put, List.setIfInBounds_toArray, List.set_cons_zero, List.set_cons_succ, i64_w, i32_w]
              rfl
            refine pure_ (i := 4) (N := some 44) (v := ?_) (a' := ?_) #[true, true, true, true, true, false, false, false, false, false, false, false, false, false, false, false, false] rfl rfl (by kernel_rfl) (fun _ _ _ h => h) (Or.inl ⟨by rfl, ?_⟩) ?_ ?_
            rotate_left
            · intro w'
              go_simp
              with_reducible rfl
            rotate_left
            · simp only [Act.put, List.setIfInBounds_toArray, List.set_cons_zero, List.set_cons_succ, i64_w, i32_w]
              rfl
            refine pure_ (i := 6) (N := some 46) (v := ?_) (a' := ?_) #[true, true, true, true, true, false, true, false, false, false, false, false, false, false, false, false, false] rfl rfl (by kernel_rfl) (fun _ _ _ h => h) (Or.inl ⟨by rfl, ?_⟩) ?_ ?_
            rotate_left
            · intro w'
              go_simp
              with_reducible rfl
            rotate_left
            · simp only [Act.put, List.setIfInBounds_toArray, List.set_cons_zero, List.set_cons_succ, i64_w, i32_w]
              rfl
            refine pure_ (i := 9) (N := some 49) (v := ?_) (a' := ?_) #[true, true, true, true, true, false, true, false, false, true, false, false, false, false, false, false, false] rfl rfl (by kernel_rfl) (fun _ _ _ h => h) (Or.inl ⟨by rfl, ?_⟩) ?_ ?_
            rotate_left
            · intro w'
              go_simp
              with_reducible rfl
            rotate_left
            · simp only [Act.put, List.setIfInBounds_toArray, List.set_cons_zero, List.set_cons_succ, i64_w, i32_w]
              rfl
            refine pure_ (i := 10) (N := some 50) (v := ?_) (a' := ?_) #[true, true, true, true, true, false, true, false, false, true, true, false, false, false, false, false, false] rfl rfl (by kernel_rfl) (fun _ _ _ h => h) (Or.inl ⟨by rfl, ?_⟩) ?_ ?_
            rotate_left
            · intro w'
              go_simp
              with_reducible rfl
            rotate_left
            · simp only [Act.put, List.setIfInBounds_toArray, List.set_cons_zero, List.set_cons_succ, i64_w, i32_w]
              rfl
            refine take_ (i := 5) (N := some 45) (v := ?_) (a' := ?_) #[true, true, true, true, true, true, true, false, false, true, true, false, false, false, false, false, false] rfl rfl (by kernel_rfl) (fun _ _ _ h => h) (Or.inl ⟨by rfl, ?_⟩) hHeld ?_ ?_
            rotate_left
            · rintro w' ⟨s0, s1⟩
              go_simp
              with_reducible rfl
            rotate_left
            · simp only [Act.put, List.setIfInBounds_toArray, List.set_cons_zero, List.set_cons_succ, i64_w, i32_w]
              rfl
            refine take_ (i := 7) (N := some 47) (v := ?_) (a' := ?_) #[true, true, true, true, true, true, true, true, false, true, true, false, false, false, false, false, false] rfl rfl (by kernel_rfl) (fun _ _ _ h => h) (Or.inl ⟨by rfl, ?_⟩) hHeld ?_ ?_
            rotate_left
            · rintro w' ⟨s0, s1⟩
              go_simp
              with_reducible rfl
            rotate_left
            · simp only [Act.put, List.setIfInBounds_toArray, List.set_cons_zero, List.set_cons_succ, i64_w, i32_w]
              rfl
            refine pure_ (i := 8) (N := some 48) (v := ?_) (a' := ?_) #[true, true, true, true, true, true, true, true, true, true, true, false, false, false, false, false, false] rfl rfl (by kernel_rfl) (fun _ _ _ h => h) (Or.inl ⟨by rfl, ?_⟩) ?_ ?_
            rotate_left
            · intro w'
              go_simp
              with_reducible rfl
            rotate_left
            · simp only [Act.put, List.setIfInBounds_toArray, List.set_cons_zero, List.set_cons_succ, i64_w, i32_w]
              rfl
            refine pure_ (i := 11) (N := some 51) (v := ?_) (a' := ?_) #[true, true, true, true, true, true, true, true, true, true, true, true, false, false, false, false, false] rfl rfl (by kernel_rfl) (fun _ _ _ h => h) (Or.inl ⟨by rfl, ?_⟩) ?_ ?_
            rotate_left
            · intro w'
              go_simp
              with_reducible rfl
            rotate_left
            · simp only [Act.put, List.setIfInBounds_toArray, List.set_cons_zero, List.set_cons_succ, i64_w, i32_w]
              rfl
            refine pure_ (i := 12) (N := some 52) (v := ?_) (a' := ?_) #[true, true, true, true, true, true, true, true, true, true, true, true, true, false, false, false, false] rfl rfl (by kernel_rfl) (fun _ _ _ h => h) (Or.inl ⟨by rfl, ?_⟩) ?_ ?_
            rotate_left
            · intro w'
              go_simp
              with_reducible rfl
            rotate_left
            · simp only [Act.put, List.setIfInBounds_toArray, List.set_cons_zero, List.set_cons_succ, i64_w, i32_w]
              rfl
            refine last_ (i := 13) (N := none) #[true, true, true, true, true, true, true, true, true, true, true, true, true, true, false, false, false] rfl rfl (by kernel_rfl) (by decide) (fun K hK => ?_)
            refine skip_ (w1 := ?_) (by rfl) rfl ?_ ?_
            rotate_left
            · go_simp
              rfl
            refine hK.out _ _ ?_
            clear hK K
            refine pure_ (i := 14) (N := some 53) (v := ?_) (a' := ?_) #[true, true, true, true, true, true, true, true, true, true, true, true, true, true, true, false, false] rfl rfl (by kernel_rfl) (fun _ _ _ h => h) (Or.inl ⟨by rfl, ?_⟩) ?_ ?_
            rotate_left
            · intro w'
              go_simp
              with_reducible rfl
            rotate_left
            · simp only [Act.put, List.setIfInBounds_toArray, List.set_cons_zero, List.set_cons_succ, i64_w, i32_w]
              rfl
            refine pure_ (i := 15) (N := some 54) (v := ?_) (a' := ?_) #[true, true, true, true, true, true, true, true, true, true, true, true, true, true, true, true, false] rfl rfl (by kernel_rfl) (fun _ _ _ h => h) (Or.inl ⟨by rfl, ?_⟩) ?_ ?_
            rotate_left
            · intro w'
              go_simp
              with_reducible rfl
            rotate_left
            · simp only [Act.put, List.setIfInBounds_toArray, List.set_cons_zero, List.set_cons_succ, i64_w, i32_w]
              rfl
            refine last_ (i := 16) (N := none) #[true, true, true, true, true, true, true, true, true, true, true, true, true, true, true, true, true] rfl rfl (by kernel_rfl) (by decide) (fun K hK => ?_)
            refine skip_ (w1 := ?_) (by rfl) rfl ?_ ?_
            rotate_left
            · go_simp
              rfl
            refine hK.out _ _ ?_
            clear hK K
            refine done_ (by kernel_rfl) ?_
            have HW := Aside0.mk (show wrap64 (ii + 1) = ii + 1 by unfold wrap64; omega)
            have HC2 := Aside0.mk (cluster_Of.get_set out m (⟨c0, wrap64 (c1 + r1), c2, c3, c4, c5⟩ : S39) (by have := HM.out; omega))
            have n0_ := cluster_Of.St_fld HS.out m (by omega) (⟨c0, wrap64 (c1 + r1), c2, c3, c4, c5⟩ : S39) 1 (.int .i64 (wrap64 (c1 + r1))) (by omega) (by rw [HC.out]; rfl)
            have n1_ := cluster_Of.St_fld n0_ m (by omega) (⟨c0, wrap64 (c1 + r1), c2, wrap64 (ii + 1), c4, c5⟩ : S39) 3 (.int .i64 (wrap64 (ii + 1))) (by omega) (by rw [HC2.out]; rfl)
            rw [List.set_set] at n1_
            have n2_ := Aside0.mk (cluster_Of.St_drew n1_)
            have hne6 : g6 ≠ g3 := fun e => (HS.out.1.1 g3 rfl).1.2 e.symm
            have hne7 : g7 ≠ g3 := fun e => (HS.out.1.1 g3 rfl).2 e.symm
            have n3_ := Aside0.mk (blk_drew (blk_far (blk_far K6.out (p := ⟨g3, m * 6 + 1, none⟩) hne6 (.int .i64 (wrap64 (c1 + r1)))) (p := ⟨g3, m * 6 + 3, none⟩) hne6 (.int .i64 (wrap64 (ii + 1)))))
            have n4_ := Aside0.mk (blk_drew (blk_far (blk_far K7.out (p := ⟨g3, m * 6 + 1, none⟩) hne7 (.int .i64 (wrap64 (c1 + r1)))) (p := ⟨g3, m * 6 + 3, none⟩) hne7 (.int .i64 (wrap64 (ii + 1)))))
            have HNE := Aside0.mk (And.intro hne6 hne7)
            clear HS K6 K7 n0_ n1_ hne6 hne7 hf1 hf3 hc1 hc3 h61 HC2
            have HS := n2_
            have K6 := n3_
            have K7 := n4_
            clear n2_ n3_ n4_
            generalize ((w6.setCell { block := g3, off := m * 6 + 1 } (Value.int IntKind.i64 (wrap64 (c1 + r1)))).setCell { block := g3, off := m * 6 + 3 } (Value.int IntKind.i64 (wrap64 (ii + 1)))).drew = w7 at *
            have HC2 := Aside0.mk (cluster_Of.get_set out m (⟨c0, wrap64 (c1 + r1), c2, wrap64 (ii + 1), c4, c5⟩ : S39) (by have := HM.out; omega))
            have ca3 := (blk_cell HS.out.2.1 3).trans rfl
            have ca5 := (blk_cell HS.out.2.1 5).trans rfl
            have cr2 := (blk_cell K6.out 2).trans rfl
            have cb4 := (blk_cell K7.out 4).trans rfl
            obtain ⟨hcl, hfr⟩ := cluster_Of.cell_at HS.out.1 m (by omega)
            rw [HC2.out] at hcl
            have hf4 := hfr 4
            have hc4 := hcl 4 _ rfl
            clear hcl hfr
            cases h3b : (a3 == 1) with
            | true =>
              have hg := HH.out
              rw [show cluster_Of.grow (⟨c0, c1, c2, c3, c4, c5⟩ : S39) r1 r2 a3 a5 b4 (ii + 1) = (⟨c0, wrap64 (c1 + r1), c2, wrap64 (ii + 1), c4, c5⟩ : S39) from by unfold cluster_Of.grow; rw [h3b, if_pos rfl]; rw [HW.out]] at hg
              have n0_ := Aside0.mk hg
              clear HH hg
              have HH := n0_
              clear n0_
              go_wp2_with (first | ((with_reducible refine gate_dst (N := 82) rfl ?_); refine cluster_Of.block_load rfl 72 (.tmp 4) rfl rfl HS.out.2.1 _ Try.underlying72 rfl (by kernel_rfl) ?_) | ((with_reducible refine gate_dst (N := 83) rfl ?_); refine cluster_Of.block_load rfl 70 (.tmp 7) rfl rfl K7.out _ Try.underlying70 rfl (by kernel_rfl) ?_) | (go_at_call 59; (with_reducible refine (cluster_seen_then.calls a0 a1 a2 a3 a4 _ a6 a7 b0 b1 b2 b3 b4 b5 n0 n1 n2 n3 n4 n5 n6 n7 _ HT.out).mono ?_); rintro e w9 ⟨rfl, hb⟩; have n0_ := Aside0.mk (cluster_Of.St_below HS.out hb); have n2_ := Aside0.mk (blk_below K7.out hb); clear HS hb K7; have HS := n0_; have K7 := n2_; clear n0_ n2_) | ((with_reducible refine gate_store (t := 72) (p := 4) (v := .tmp 84) rfl ?_); refine block_store rfl rfl 72 (.tmp 4) (.tmp 84) rfl rfl (.agg #[.int .i64 n0, .int .i64 n1, .int .i64 n2, .int .i64 n3, .int .i64 n4, .bool n5, .int .i64 n6, .int .i64 n7]) rfl HS.out.2.1 rfl (by kernel_rfl) (cluster_Of.cells8 n0 n1 n2 n3 n4 n5 n6 n7) ?_; intro w10 hb hk hs hB; have n0_ := Aside0.mk (cluster_Of.St_putA HS.out hk hB hb); clear HS hb hk hs hB; have HS := n0_; clear n0_))
              go_roundg (l0.length - (i + 1))
              case measure => omega
              case rel => exact ⟨i + 1, _, n0, n1, n2, n3, n4, n5, n6, n7, by rw [HII.out]; go_num, by omega, Nat.le_refl _, HH, ⟨cluster_Of.St_weak HS.out⟩⟩
            | false =>
              cases hr2 : (r2 == 65039) with
              | true =>
                cases a5 with
                | true =>
                  have hg := HH.out
                  rw [show cluster_Of.grow (⟨c0, c1, c2, c3, c4, c5⟩ : S39) r1 r2 a3 true b4 (ii + 1) = (⟨c0, wrap64 (c1 + r1), c2, wrap64 (ii + 1), 2, c5⟩ : S39) from by unfold cluster_Of.grow; rw [h3b, hr2, if_neg (by decide), if_pos rfl, if_pos rfl]; rw [HW.out]] at hg
                  have n0_ := Aside0.mk hg
                  clear HH hg
                  have HH := n0_
                  clear n0_
                  go_upto_region 16 with (fail)
                  (try simp only [Act.put, List.setIfInBounds_toArray, List.set_cons_zero, List.set_cons_succ])
                  have n1_ := cluster_Of.St_fld HS.out m (by omega) (⟨c0, wrap64 (c1 + r1), c2, wrap64 (ii + 1), 2, c5⟩ : S39) 4 (.int .i64 (2)) (by omega) (by rw [HC2.out]; rfl)
                  rw [List.set_set] at n1_
                  have n2_ := Aside0.mk (n1_)
                  have n4_ := Aside0.mk (blk_far K7.out (p := ⟨g3, m * 6 + 4, none⟩) HNE.out.2 (.int .i64 (2)))
                  clear HS K6 K7 n1_ hf4 hc4 ca3 ca5 cr2 cb4
                  have HS := n2_
                  have K7 := n4_
                  clear n2_ n4_
                  generalize w7.setCell { block := g3, off := m * 6 + 4 } (Value.int IntKind.i64 2) = w8 at *
                  go_wp2_with (first | ((with_reducible refine gate_dst (N := 82) rfl ?_); refine cluster_Of.block_load rfl 72 (.tmp 4) rfl rfl HS.out.2.1 _ Try.underlying72 rfl (by kernel_rfl) ?_) | ((with_reducible refine gate_dst (N := 83) rfl ?_); refine cluster_Of.block_load rfl 70 (.tmp 7) rfl rfl K7.out _ Try.underlying70 rfl (by kernel_rfl) ?_) | (go_at_call 59; (with_reducible refine (cluster_seen_then.calls a0 a1 a2 a3 a4 _ a6 a7 b0 b1 b2 b3 b4 b5 n0 n1 n2 n3 n4 n5 n6 n7 _ HT.out).mono ?_); rintro e w9 ⟨rfl, hb⟩; have n0_ := Aside0.mk (cluster_Of.St_below HS.out hb); have n2_ := Aside0.mk (blk_below K7.out hb); clear HS hb K7; have HS := n0_; have K7 := n2_; clear n0_ n2_) | ((with_reducible refine gate_store (t := 72) (p := 4) (v := .tmp 84) rfl ?_); refine block_store rfl rfl 72 (.tmp 4) (.tmp 84) rfl rfl (.agg #[.int .i64 n0, .int .i64 n1, .int .i64 n2, .int .i64 n3, .int .i64 n4, .bool n5, .int .i64 n6, .int .i64 n7]) rfl HS.out.2.1 rfl (by kernel_rfl) (cluster_Of.cells8 n0 n1 n2 n3 n4 n5 n6 n7) ?_; intro w10 hb hk hs hB; have n0_ := Aside0.mk (cluster_Of.St_putA HS.out hk hB hb); clear HS hb hk hs hB; have HS := n0_; clear n0_))
                  go_roundg (l0.length - (i + 1))
                  case measure => omega
                  case rel => exact ⟨i + 1, _, n0, n1, n2, n3, n4, n5, n6, n7, by rw [HII.out]; go_num, by omega, Nat.le_refl _, HH, ⟨cluster_Of.St_weak HS.out⟩⟩
                | false =>
                  obtain ⟨mv, hmv⟩ : ∃ z : Int, (if c4 < b4 then b4 else c4) = z := ⟨_, rfl⟩
                  have hmx : max c4 b4 = mv := by rw [← hmv]; split <;> omega
                  have hg := HH.out
                  rw [show cluster_Of.grow (⟨c0, c1, c2, c3, c4, c5⟩ : S39) r1 r2 a3 false b4 (ii + 1) = (⟨c0, wrap64 (c1 + r1), c2, wrap64 (ii + 1), mv, c5⟩ : S39) from by unfold cluster_Of.grow; rw [h3b, hr2, if_neg (by decide), if_pos rfl, if_neg (by decide)]; rw [HW.out, hmx]] at hg
                  have n0_ := Aside0.mk hg
                  clear HH hg hmx
                  have HH := n0_
                  clear n0_
                  go_upto_region 12 with (fail)
                  (try simp only [Act.put, List.setIfInBounds_toArray, List.set_cons_zero, List.set_cons_succ])
                  refine start_ (n := 11) (S := fun w' => w'.cell? ⟨g3, m * 6 + 4, none⟩ = some (.int .i64 c4) ∧ w'.cell? ⟨g7, 4, none⟩ = some (.int .i64 b4)) (ds := [10]) #[false, false, false, false, false, false, false, false, false, false, false] (by kernel_rfl) rfl rfl ⟨hc4, cb4⟩ (fun hHeld => ?_)
                  refine pure_ (i := 0) (N := some 55) (v := ?_) (a' := ?_) #[true, false, false, false, false, false, false, false, false, false, false] rfl rfl (by kernel_rfl) (fun _ _ _ h => h) (Or.inl ⟨by rfl, ?_⟩) ?_ ?_
                  rotate_left
                  · intro w'
                    go_simp
                    with_reducible rfl
                  rotate_left
                  · simp only [Act.put, List.setIfInBounds_toArray, List.set_cons_zero, List.set_cons_succ, i64_w, i32_w]
                    rfl
                  refine pure_ (i := 1) (N := some 56) (v := ?_) (a' := ?_) #[true, true, false, false, false, false, false, false, false, false, false] rfl rfl (by kernel_rfl) (fun _ _ _ h => h) (Or.inl ⟨by rfl, ?_⟩) ?_ ?_
                  rotate_left
                  · intro w'
                    go_simp
                    with_reducible rfl
                  rotate_left
                  · simp only [Act.put, List.setIfInBounds_toArray, List.set_cons_zero, List.set_cons_succ, i64_w, i32_w]
                    rfl
                  refine pure_ (i := 2) (N := some 57) (v := ?_) (a' := ?_) #[true, true, true, false, false, false, false, false, false, false, false] rfl rfl (by kernel_rfl) (fun _ _ _ h => h) (Or.inl ⟨by rfl, ?_⟩) ?_ ?_
                  rotate_left
                  · intro w'
                    go_simp
                    with_reducible rfl
                  rotate_left
                  · simp only [Act.put, List.setIfInBounds_toArray, List.set_cons_zero, List.set_cons_succ, i64_w, i32_w]
                    rfl
                  refine pure_ (i := 3) (N := some 58) (v := ?_) (a' := ?_) #[true, true, true, true, false, false, false, false, false, false, false] rfl rfl (by kernel_rfl) (fun _ _ _ h => h) (Or.inl ⟨by rfl, ?_⟩) ?_ ?_
                  rotate_left
                  · intro w'
                    go_simp
                    with_reducible rfl
                  rotate_left
                  · simp only [Act.put, List.setIfInBounds_toArray, List.set_cons_zero, List.set_cons_succ, i64_w, i32_w]
                    rfl
                  refine pure_ (i := 5) (N := some 60) (v := ?_) (a' := ?_) #[true, true, true, true, false, true, false, false, false, false, false] rfl rfl (by kernel_rfl) (fun _ _ _ h => h) (Or.inl ⟨by rfl, ?_⟩) ?_ ?_
                  rotate_left
                  · intro w'
                    go_simp
                    with_reducible rfl
                  rotate_left
                  · simp only [Act.put, List.setIfInBounds_toArray, List.set_cons_zero, List.set_cons_succ, i64_w, i32_w]
                    rfl
                  refine take_ (i := 4) (N := some 59) (v := ?_) (a' := ?_) #[true, true, true, true, true, true, false, false, false, false, false] rfl rfl (by kernel_rfl) (fun _ _ _ h => h) (Or.inl ⟨by rfl, ?_⟩) hHeld ?_ ?_
                  rotate_left
                  · rintro w' ⟨s0, s1⟩
                    go_simp
                    with_reducible rfl
                  rotate_left
                  · simp only [Act.put, List.setIfInBounds_toArray, List.set_cons_zero, List.set_cons_succ, i64_w, i32_w]
                    rfl
                  refine take_ (i := 6) (N := some 61) (v := ?_) (a' := ?_) #[true, true, true, true, true, true, true, false, false, false, false] rfl rfl (by kernel_rfl) (fun _ _ _ h => h) (Or.inl ⟨by rfl, ?_⟩) hHeld ?_ ?_
                  rotate_left
                  · rintro w' ⟨s0, s1⟩
                    go_simp
                    with_reducible rfl
                  rotate_left
                  · simp only [Act.put, List.setIfInBounds_toArray, List.set_cons_zero, List.set_cons_succ, i64_w, i32_w]
                    rfl
                  refine pure_ (i := 7) (N := some 62) (v := ?_) (a' := ?_) #[true, true, true, true, true, true, true, true, false, false, false] rfl rfl (by kernel_rfl) (fun _ _ _ h => h) (Or.inl ⟨by rfl, ?_⟩) ?_ ?_
                  rotate_left
                  · intro w'
                    go_simp
                    with_reducible rfl
                  rotate_left
                  · simp only [Act.put, List.setIfInBounds_toArray, List.set_cons_zero, List.set_cons_succ, i64_w, i32_w]
                    rfl
                  refine pure_ (i := 8) (N := some 63) (v := ?_) (a' := ?_) #[true, true, true, true, true, true, true, true, true, false, false] rfl rfl (by kernel_rfl) (fun _ _ _ h => h) (Or.inl ⟨by rfl, ?_⟩) ?_ ?_
                  rotate_left
                  · intro w'
                    go_simp
                    with_reducible rfl
                  rotate_left
                  · simp only [Act.put, List.setIfInBounds_toArray, List.set_cons_zero, List.set_cons_succ, i64_w, i32_w]
                    rfl
                  refine pure_ (i := 9) (N := some 64) (v := ?_) (a' := ?_) #[true, true, true, true, true, true, true, true, true, true, false] rfl rfl (by kernel_rfl) (fun _ _ _ h => h) (Or.inl ⟨by rfl, ?_⟩) ?_ ?_
                  rotate_left
                  · intro w'
                    go_simp
                    with_reducible rfl
                  rotate_left
                  · simp only [Act.put, List.setIfInBounds_toArray, List.set_cons_zero, List.set_cons_succ, i64_w, i32_w]
                    rfl
                  refine last_ (i := 10) (N := none) #[true, true, true, true, true, true, true, true, true, true, true] rfl rfl (by kernel_rfl) (by decide) (fun K hK => ?_)
                  refine skip_ (w1 := ?_) (by rfl) rfl ?_ ?_
                  rotate_left
                  · go_simp
                    rfl
                  refine hK.out _ _ ?_
                  clear hK K
                  refine done_ (by kernel_rfl) ?_
                  clear hmv
                  have n1_ := cluster_Of.St_fld HS.out m (by omega) (⟨c0, wrap64 (c1 + r1), c2, wrap64 (ii + 1), mv, c5⟩ : S39) 4 (.int .i64 mv) (by omega) (by rw [HC2.out]; rfl)
                  rw [List.set_set] at n1_
                  have n2_ := Aside0.mk (cluster_Of.St_drew n1_)
                  have n4_ := Aside0.mk (blk_drew (blk_far K7.out (p := ⟨g3, m * 6 + 4, none⟩) HNE.out.2 (.int .i64 mv)))
                  clear HS K6 K7 n1_ hf4 hc4 ca3 ca5 cr2 cb4
                  have HS := n2_
                  have K7 := n4_
                  clear n2_ n4_
                  generalize (w7.setCell { block := g3, off := m * 6 + 4 } (Value.int IntKind.i64 mv)).drew = w8 at *
                  go_wp2_with (first | ((with_reducible refine gate_dst (N := 82) rfl ?_); refine cluster_Of.block_load rfl 72 (.tmp 4) rfl rfl HS.out.2.1 _ Try.underlying72 rfl (by kernel_rfl) ?_) | ((with_reducible refine gate_dst (N := 83) rfl ?_); refine cluster_Of.block_load rfl 70 (.tmp 7) rfl rfl K7.out _ Try.underlying70 rfl (by kernel_rfl) ?_) | (go_at_call 59; (with_reducible refine (cluster_seen_then.calls a0 a1 a2 a3 a4 _ a6 a7 b0 b1 b2 b3 b4 b5 n0 n1 n2 n3 n4 n5 n6 n7 _ HT.out).mono ?_); rintro e w9 ⟨rfl, hb⟩; have n0_ := Aside0.mk (cluster_Of.St_below HS.out hb); have n2_ := Aside0.mk (blk_below K7.out hb); clear HS hb K7; have HS := n0_; have K7 := n2_; clear n0_ n2_) | ((with_reducible refine gate_store (t := 72) (p := 4) (v := .tmp 84) rfl ?_); refine block_store rfl rfl 72 (.tmp 4) (.tmp 84) rfl rfl (.agg #[.int .i64 n0, .int .i64 n1, .int .i64 n2, .int .i64 n3, .int .i64 n4, .bool n5, .int .i64 n6, .int .i64 n7]) rfl HS.out.2.1 rfl (by kernel_rfl) (cluster_Of.cells8 n0 n1 n2 n3 n4 n5 n6 n7) ?_; intro w10 hb hk hs hB; have n0_ := Aside0.mk (cluster_Of.St_putA HS.out hk hB hb); clear HS hb hk hs hB; have HS := n0_; clear n0_))
                  go_roundg (l0.length - (i + 1))
                  case measure => omega
                  case rel => exact ⟨i + 1, _, n0, n1, n2, n3, n4, n5, n6, n7, by rw [HII.out]; go_num, by omega, Nat.le_refl _, HH, ⟨cluster_Of.St_weak HS.out⟩⟩
              | false =>
                obtain ⟨mv, hmv⟩ : ∃ z : Int, (if c4 < b4 then b4 else c4) = z := ⟨_, rfl⟩
                have hmx : max c4 b4 = mv := by rw [← hmv]; split <;> omega
                have hg := HH.out
                rw [show cluster_Of.grow (⟨c0, c1, c2, c3, c4, c5⟩ : S39) r1 r2 a3 a5 b4 (ii + 1) = (⟨c0, wrap64 (c1 + r1), c2, wrap64 (ii + 1), mv, c5⟩ : S39) from by unfold cluster_Of.grow; rw [h3b, hr2, if_neg (by decide), if_neg (by decide)]; rw [HW.out, hmx]] at hg
                have n0_ := Aside0.mk hg
                clear HH hg hmx
                have HH := n0_
                clear n0_
                go_upto_region 12 with (fail)
                (try simp only [Act.put, List.setIfInBounds_toArray, List.set_cons_zero, List.set_cons_succ])
                refine start_ (n := 11) (S := fun w' => w'.cell? ⟨g3, m * 6 + 4, none⟩ = some (.int .i64 c4) ∧ w'.cell? ⟨g7, 4, none⟩ = some (.int .i64 b4)) (ds := [10]) #[false, false, false, false, false, false, false, false, false, false, false] (by kernel_rfl) rfl rfl ⟨hc4, cb4⟩ (fun hHeld => ?_)
                refine pure_ (i := 0) (N := some 55) (v := ?_) (a' := ?_) #[true, false, false, false, false, false, false, false, false, false, false] rfl rfl (by kernel_rfl) (fun _ _ _ h => h) (Or.inl ⟨by rfl, ?_⟩) ?_ ?_
                rotate_left
                · intro w'
                  go_simp
                  with_reducible rfl
                rotate_left
                · simp only [Act.put, List.setIfInBounds_toArray, List.set_cons_zero, List.set_cons_succ, i64_w, i32_w]
                  rfl
                refine pure_ (i := 1) (N := some 56) (v := ?_) (a' := ?_) #[true, true, false, false, false, false, false, false, false, false, false] rfl rfl (by kernel_rfl) (fun _ _ _ h => h) (Or.inl ⟨by rfl, ?_⟩) ?_ ?_
                rotate_left
                · intro w'
                  go_simp
                  with_reducible rfl
                rotate_left
                · simp only [Act.put, List.setIfInBounds_toArray, List.set_cons_zero, List.set_cons_succ, i64_w, i32_w]
                  rfl
                refine pure_ (i := 2) (N := some 57) (v := ?_) (a' := ?_) #[true, true, true, false, false, false, false, false, false, false, false] rfl rfl (by kernel_rfl) (fun _ _ _ h => h) (Or.inl ⟨by rfl, ?_⟩) ?_ ?_
                rotate_left
                · intro w'
                  go_simp
                  with_reducible rfl
                rotate_left
                · simp only [Act.put, List.setIfInBounds_toArray, List.set_cons_zero, List.set_cons_succ, i64_w, i32_w]
                  rfl
                refine pure_ (i := 3) (N := some 58) (v := ?_) (a' := ?_) #[true, true, true, true, false, false, false, false, false, false, false] rfl rfl (by kernel_rfl) (fun _ _ _ h => h) (Or.inl ⟨by rfl, ?_⟩) ?_ ?_
                rotate_left
                · intro w'
                  go_simp
                  with_reducible rfl
                rotate_left
                · simp only [Act.put, List.setIfInBounds_toArray, List.set_cons_zero, List.set_cons_succ, i64_w, i32_w]
                  rfl
                refine pure_ (i := 5) (N := some 60) (v := ?_) (a' := ?_) #[true, true, true, true, false, true, false, false, false, false, false] rfl rfl (by kernel_rfl) (fun _ _ _ h => h) (Or.inl ⟨by rfl, ?_⟩) ?_ ?_
                rotate_left
                · intro w'
                  go_simp
                  with_reducible rfl
                rotate_left
                · simp only [Act.put, List.setIfInBounds_toArray, List.set_cons_zero, List.set_cons_succ, i64_w, i32_w]
                  rfl
                refine take_ (i := 4) (N := some 59) (v := ?_) (a' := ?_) #[true, true, true, true, true, true, false, false, false, false, false] rfl rfl (by kernel_rfl) (fun _ _ _ h => h) (Or.inl ⟨by rfl, ?_⟩) hHeld ?_ ?_
                rotate_left
                · rintro w' ⟨s0, s1⟩
                  go_simp
                  with_reducible rfl
                rotate_left
                · simp only [Act.put, List.setIfInBounds_toArray, List.set_cons_zero, List.set_cons_succ, i64_w, i32_w]
                  rfl
                refine take_ (i := 6) (N := some 61) (v := ?_) (a' := ?_) #[true, true, true, true, true, true, true, false, false, false, false] rfl rfl (by kernel_rfl) (fun _ _ _ h => h) (Or.inl ⟨by rfl, ?_⟩) hHeld ?_ ?_
                rotate_left
                · rintro w' ⟨s0, s1⟩
                  go_simp
                  with_reducible rfl
                rotate_left
                · simp only [Act.put, List.setIfInBounds_toArray, List.set_cons_zero, List.set_cons_succ, i64_w, i32_w]
                  rfl
                refine pure_ (i := 7) (N := some 62) (v := ?_) (a' := ?_) #[true, true, true, true, true, true, true, true, false, false, false] rfl rfl (by kernel_rfl) (fun _ _ _ h => h) (Or.inl ⟨by rfl, ?_⟩) ?_ ?_
                rotate_left
                · intro w'
                  go_simp
                  with_reducible rfl
                rotate_left
                · simp only [Act.put, List.setIfInBounds_toArray, List.set_cons_zero, List.set_cons_succ, i64_w, i32_w]
                  rfl
                refine pure_ (i := 8) (N := some 63) (v := ?_) (a' := ?_) #[true, true, true, true, true, true, true, true, true, false, false] rfl rfl (by kernel_rfl) (fun _ _ _ h => h) (Or.inl ⟨by rfl, ?_⟩) ?_ ?_
                rotate_left
                · intro w'
                  go_simp
                  with_reducible rfl
                rotate_left
                · simp only [Act.put, List.setIfInBounds_toArray, List.set_cons_zero, List.set_cons_succ, i64_w, i32_w]
                  rfl
                refine pure_ (i := 9) (N := some 64) (v := ?_) (a' := ?_) #[true, true, true, true, true, true, true, true, true, true, false] rfl rfl (by kernel_rfl) (fun _ _ _ h => h) (Or.inl ⟨by rfl, ?_⟩) ?_ ?_
                rotate_left
                · intro w'
                  go_simp
                  with_reducible rfl
                rotate_left
                · simp only [Act.put, List.setIfInBounds_toArray, List.set_cons_zero, List.set_cons_succ, i64_w, i32_w]
                  rfl
                refine last_ (i := 10) (N := none) #[true, true, true, true, true, true, true, true, true, true, true] rfl rfl (by kernel_rfl) (by decide) (fun K hK => ?_)
                refine skip_ (w1 := ?_) (by rfl) rfl ?_ ?_
                rotate_left
                · go_simp
                  rfl
                refine hK.out _ _ ?_
                clear hK K
                refine done_ (by kernel_rfl) ?_
                clear hmv
                have n1_ := cluster_Of.St_fld HS.out m (by omega) (⟨c0, wrap64 (c1 + r1), c2, wrap64 (ii + 1), mv, c5⟩ : S39) 4 (.int .i64 mv) (by omega) (by rw [HC2.out]; rfl)
                rw [List.set_set] at n1_
                have n2_ := Aside0.mk (cluster_Of.St_drew n1_)
                have n4_ := Aside0.mk (blk_drew (blk_far K7.out (p := ⟨g3, m * 6 + 4, none⟩) HNE.out.2 (.int .i64 mv)))
                clear HS K6 K7 n1_ hf4 hc4 ca3 ca5 cr2 cb4
                have HS := n2_
                have K7 := n4_
                clear n2_ n4_
                generalize (w7.setCell { block := g3, off := m * 6 + 4 } (Value.int IntKind.i64 mv)).drew = w8 at *
                go_wp2_with (first | ((with_reducible refine gate_dst (N := 82) rfl ?_); refine cluster_Of.block_load rfl 72 (.tmp 4) rfl rfl HS.out.2.1 _ Try.underlying72 rfl (by kernel_rfl) ?_) | ((with_reducible refine gate_dst (N := 83) rfl ?_); refine cluster_Of.block_load rfl 70 (.tmp 7) rfl rfl K7.out _ Try.underlying70 rfl (by kernel_rfl) ?_) | (go_at_call 59; (with_reducible refine (cluster_seen_then.calls a0 a1 a2 a3 a4 _ a6 a7 b0 b1 b2 b3 b4 b5 n0 n1 n2 n3 n4 n5 n6 n7 _ HT.out).mono ?_); rintro e w9 ⟨rfl, hb⟩; have n0_ := Aside0.mk (cluster_Of.St_below HS.out hb); have n2_ := Aside0.mk (blk_below K7.out hb); clear HS hb K7; have HS := n0_; have K7 := n2_; clear n0_ n2_) | ((with_reducible refine gate_store (t := 72) (p := 4) (v := .tmp 84) rfl ?_); refine block_store rfl rfl 72 (.tmp 4) (.tmp 84) rfl rfl (.agg #[.int .i64 n0, .int .i64 n1, .int .i64 n2, .int .i64 n3, .int .i64 n4, .bool n5, .int .i64 n6, .int .i64 n7]) rfl HS.out.2.1 rfl (by kernel_rfl) (cluster_Of.cells8 n0 n1 n2 n3 n4 n5 n6 n7) ?_; intro w10 hb hk hs hB; have n0_ := Aside0.mk (cluster_Of.St_putA HS.out hk hB hb); clear HS hb hk hs hB; have HS := n0_; clear n0_))
                go_roundg (l0.length - (i + 1))
                case measure => omega
                case rel => exact ⟨i + 1, _, n0, n1, n2, n3, n4, n5, n6, n7, by rw [HII.out]; go_num, by omega, Nat.le_refl _, HH, ⟨cluster_Of.St_weak HS.out⟩⟩
          · rw [if_neg hp] at H
            cases H
    · obtain rfl : i = l0.length := by omega
      have H := HA.out
      rw [List.drop_length] at H
      obtain rfl := Option.some.inj H
      clear H HA
      go_wp2
      go_ret
      exact ⟨_, rfl, Kd.R_mono HS.out.1 (fun _ _ => trivial), HS.out.2.2.1⟩
end


/-! ### cluster_Split: function 36 -/
def cluster_Split.f (a0 : ByteArray) : Option ((List (S39))) := (runes_Split.f a0).bind fun t114 => ((cluster_Of.f t114).bind fun t117 => (some t117))
set_option maxHeartbeats 8000000 in
set_option maxRecDepth 100000 in
theorem cluster_Split.calls (a0 : ByteArray) (r : List (S39)) (w : World) (h : cluster_Split.f a0 = some r) :
    Calls Try.prog 36 #[.string a0] w fun e w' => ∃ v0_ : Value, e = .returned (v0_) ∧ Kd.R k39 39 w' w.heap.size (fun _ => True) v0_ r ∧ Below w.heap.size w w' := by
  have HB := Aside0.mk (Below.refl w.heap.size w)
  have H : ((runes_Split.f a0).bind fun t114 => ((cluster_Of.f t114).bind fun t117 => (some t117))) = some r := h
  clear h
  replace H := Option.bind_eq_some_iff.mp H
  obtain ⟨t114, A20, H⟩ := H
  replace H : ((cluster_Of.f t114).bind fun t117 => (some t117)) = some r := H
  have A2 := Aside0.mk A20
  clear A20
  replace H := Option.bind_eq_some_iff.mp H
  obtain ⟨t117, A30, H⟩ := H
  replace H : (some t117) = some r := H
  have A3 := Aside0.mk A30
  clear A30
  obtain rfl := Option.some.inj H
  go_enter Try.func36, Try.ntmps36
  go_wp2_with (first | ((with_reducible refine gate_callee (f := 30) rfl ?_); refine goesL_ (some 4) rfl rfl Try.func30 (by kernel_rfl) rfl #[.string a0] rfl (by (try simp only [List.map_toArray, List.map_cons, List.map_nil]); first | done | rfl | (simp only [List.length_drop, List.length_take]; rfl)) ?_; (with_reducible refine (runes_Split.calls a0 t114 _ A2.out).mono ?_); rintro e w4 ⟨v115, rfl, ho0, hb⟩; refine ⟨_, rfl, ?_⟩; have n0_ := Aside0.mk (Kd.R_lower ho0 (below_size (by repeat (first | (with_reducible first | exact HB.out | apply below_alloc | apply pw_below_drewN | apply below_drew1) | exact HB.out)))); have n1_ := Aside0.mk (below_step (by repeat (first | (with_reducible first | exact HB.out | apply below_alloc | apply pw_below_drewN | apply below_drew1) | exact HB.out)) hb); clear HB; have HO116 := n0_; have HB := n1_; clear n0_ n1_; (try clear hb); (try clear hb2); (try clear hk); (try clear hi); (try clear ho0); obtain ⟨Ao5, co5, eo5⟩ := Kd.R_slice HO116.out; subst eo5) | ((with_reducible refine gate_callee (f := 31) rfl ?_); refine goesL_ (some 5) rfl rfl Try.func31 (by kernel_rfl) rfl #[.slice Ao5 t114.length co5] rfl (by (try simp only [List.map_toArray, List.map_cons, List.map_nil]); first | done | rfl | (simp only [List.length_drop, List.length_take]; rfl)) ?_; (with_reducible refine (cluster_Of.calls _ _ t114 t117 _ ?side1 ?side2 A3.out).mono ?_); (case side1 => repeat (first | exact (Kd.R_reads' HO116.out).2.2 | (with_reducible refine Kd.C_alloc ?_ _) | (with_reducible refine Kd.C_drewN ?_ _) | (with_reducible refine Kd.C_drew ?_))); (case side2 => exact (Kd.R_reads' HO116.out).2.1); rintro e w6 ⟨v118, rfl, ho0, hb⟩; refine ⟨_, rfl, ?_⟩; have n0_ := Aside0.mk (Kd.R_below (by (with_reducible repeat (first | apply Kd.R_alloc | apply Kd.R_drewN | apply Kd.R_drew)); exact HO116.out) hb); have n1_ := Aside0.mk (Kd.R_lower ho0 (below_size (by repeat (first | (with_reducible first | exact HB.out | apply below_alloc | apply pw_below_drewN | apply below_drew1) | exact HB.out)))); have n2_ := Aside0.mk (below_step (by repeat (first | (with_reducible first | exact HB.out | apply below_alloc | apply pw_below_drewN | apply below_drew1) | exact HB.out)) hb); clear HO116; clear HB; have HO116 := n0_; have HO119 := n1_; have HB := n2_; clear n0_ n1_ n2_; (try clear hb); (try clear hb2); (try clear hk); (try clear hi); (try clear ho0)))
  go_ret
  exact ⟨_, by first | rfl | (simp [errW_none, errW_some] <;> rfl) | (simp [*, errW_none, errW_some] <;> rfl), by (with_reducible repeat (first | apply Kd.R_alloc | apply Kd.R_drewN | apply Kd.R_drew)); exact HO119.out, by repeat (first | (with_reducible first | exact HB.out | apply below_alloc | apply pw_below_drewN | apply below_drew1) | exact HB.out)⟩

/-! ### parquetryref01_Code: function 76 -/
def parquetryref01_Code.f (a0 : Int) : Option (Bool) := if a0 ≥ 0 then (if a0 ≤ 1114111 then (if a0 < 55296 then (some true) else (some (decide (a0 > 57343)))) else (some false)) else (some false)
set_option maxHeartbeats 8000000 in
set_option maxRecDepth 100000 in
theorem parquetryref01_Code.calls (a0 : Int) (r : Bool) (w : World) (h : parquetryref01_Code.f a0 = some r) :
    Calls Try.prog 76 #[.int .i64 a0] w fun e w' => e = .returned (.bool r) ∧ Drawn0 w w' := by
  have H : (if a0 ≥ 0 then (if a0 ≤ 1114111 then (if a0 < 55296 then (some true) else (some (decide (a0 > 57343)))) else (some false)) else (some false)) = some r := h
  clear h
  by_cases c2 : a0 ≥ 0
  · rw [if_pos c2] at H
    have c2b0 : decide (0 ≤ a0) = true := decide_eq_true c2
    clear c2
    by_cases c3 : a0 ≤ 1114111
    · rw [if_pos c3] at H
      have c3b0 : decide (a0 ≤ 1114111) = true := decide_eq_true c3
      clear c3
      by_cases c4 : a0 < 55296
      · rw [if_pos c4] at H
        have c4b0 : decide (a0 < 55296) = true := decide_eq_true c4
        clear c4
        obtain rfl := Option.some.inj H
        go_enter Try.func76, Try.ntmps76
        go_wp2
        go_ret
        exact ⟨by first | rfl | (simp; done) | (simp [*]; done), by repeat (first | exact Drawn0.refl _ | apply Drawn0.step)⟩
      · rw [if_neg c4] at H
        have c4b0 : decide (a0 < 55296) = false := decide_eq_false c4
        clear c4
        obtain rfl := Option.some.inj H
        go_enter Try.func76, Try.ntmps76
        go_wp2
        go_ret
        exact ⟨by first | rfl | (simp; done) | (simp [*]; done), by repeat (first | exact Drawn0.refl _ | apply Drawn0.step)⟩
    · rw [if_neg c3] at H
      have c3b0 : decide (a0 ≤ 1114111) = false := decide_eq_false c3
      clear c3
      obtain rfl := Option.some.inj H
      go_enter Try.func76, Try.ntmps76
      go_wp2
      go_ret
      exact ⟨by first | rfl | (simp; done) | (simp [*]; done), by repeat (first | exact Drawn0.refl _ | apply Drawn0.step)⟩
  · rw [if_neg c2] at H
    have c2b0 : decide (0 ≤ a0) = false := decide_eq_false c2
    clear c2
    obtain rfl := Option.some.inj H
    go_enter Try.func76, Try.ntmps76
    go_wp2
    go_ret
    exact ⟨by first | rfl | (simp; done) | (simp [*]; done), by repeat (first | exact Drawn0.refl _ | apply Drawn0.step)⟩

/-! ### parquetryref01_Bytes: function 75 -/
def parquetryref01_Bytes.j0 : Nat → Int → Option (List Int)
  | 0, _ => none
  | k + 1, x0 => if x0 < 128 then (some (([(x0) % 256] : List Int))) else (if x0 < 2048 then (some (([(wrap64 (192 + (wrap64 (Int.tdiv x0 64)))) % 256, (wrap64 (128 + (Int.tmod x0 64))) % 256] : List Int))) else (if x0 < 65536 then (some (([(wrap64 (224 + (wrap64 (Int.tdiv x0 4096)))) % 256, (wrap64 (128 + (Int.tmod (wrap64 (Int.tdiv x0 64)) 64))) % 256, (wrap64 (128 + (Int.tmod x0 64))) % 256] : List Int))) else (some (([(wrap64 (240 + (wrap64 (Int.tdiv x0 262144)))) % 256, (wrap64 (128 + (Int.tmod (wrap64 (Int.tdiv x0 4096)) 64))) % 256, (wrap64 (128 + (Int.tmod (wrap64 (Int.tdiv x0 64)) 64))) % 256, (wrap64 (128 + (Int.tmod x0 64))) % 256] : List Int)))))
def parquetryref01_Bytes.f (k : Nat) (a0 : Int) : Option (List Int) := (parquetryref01_Code.f a0).bind fun t120 => (if t120 = true then (parquetryref01_Bytes.j0 k a0) else (parquetryref01_Bytes.j0 k 65533))
theorem parquetryref01_Bytes.mono_l : ∀ k, (∀ y0, LeO (parquetryref01_Bytes.j0 k y0) (parquetryref01_Bytes.j0 (k + 1) y0))
  | 0 => fun _ r h => by simp [parquetryref01_Bytes.j0] at h
  | k + 1 => by
    have ih0 := parquetryref01_Bytes.mono_l k
    · intro y0
      unfold parquetryref01_Bytes.j0
      repeat' first
      | (with_reducible exact ih0 _)
      | (with_reducible exact LeO.refl _)
      | (with_reducible exact LeO.none _)
      | (with_reducible refine LeO.ite ?_ ?_)
      | (with_reducible refine LeO.bind ?_ (fun _ => ?_))
      | exact ih0 _
      | exact LeO.none _
      | refine LeO.ite ?_ ?_
      | refine LeO.bind ?_ (fun _ => ?_)
theorem parquetryref01_Bytes.mono : ∀ a0 k, LeO (parquetryref01_Bytes.f k a0) (parquetryref01_Bytes.f (k + 1) a0) := by
  intro a0 k
  have ih0 := parquetryref01_Bytes.mono_l k
  unfold parquetryref01_Bytes.f
  repeat' first
      | (with_reducible exact ih0 _)
      | (with_reducible exact LeO.refl _)
      | (with_reducible exact LeO.none _)
      | (with_reducible refine LeO.ite ?_ ?_)
      | (with_reducible refine LeO.bind ?_ (fun _ => ?_))
      | exact ih0 _
      | exact LeO.none _
      | refine LeO.ite ?_ ?_
      | refine LeO.bind ?_ (fun _ => ?_)
set_option maxHeartbeats 8000000 in
set_option maxRecDepth 100000 in
theorem parquetryref01_Bytes.calls (k : Nat) (a0 : Int) (r : List Int) (w : World) (h : parquetryref01_Bytes.f k a0 = some r) :
    Calls Try.prog 75 #[.int .i64 a0] w fun e w' => ∃ v0_ : Value, e = .returned (v0_) ∧ Kd.R (Kd.int .u8) 5 w' w.heap.size (fun _ => True) v0_ r ∧ Below w.heap.size w w' := by
  have HB := Aside0.mk (Below.refl w.heap.size w)
  have H : ((parquetryref01_Code.f a0).bind fun t120 => (if t120 = true then (parquetryref01_Bytes.j0 k a0) else (parquetryref01_Bytes.j0 k 65533))) = some r := h
  clear h
  replace H := Option.bind_eq_some_iff.mp H
  obtain ⟨t120, A20, H⟩ := H
  replace H : (if t120 = true then (parquetryref01_Bytes.j0 k a0) else (parquetryref01_Bytes.j0 k 65533)) = some r := H
  have A2 := Aside0.mk A20
  clear A20
  have HC3 := Aside0.mk H
  clear H
  go_enter Try.func75, Try.ntmps75
  go_upto_if 5 with (first | ((with_reducible refine gate_callee (f := 76) rfl ?_); refine goesL_ (some 4) rfl rfl Try.func76 (by kernel_rfl) rfl #[.int .i64 a0] rfl (by (try simp only [List.map_toArray, List.map_cons, List.map_nil]); first | done | rfl | (simp only [List.length_drop, List.length_take]; rfl)) ?_; (with_reducible refine (parquetryref01_Code.calls a0 t120 _ A2.out).mono ?_); rintro e w' ⟨rfl, ⟨nd, rfl⟩⟩; refine ⟨_, rfl, ?_⟩))
  (try simp only [Act.put, List.setIfInBounds_toArray, List.set_cons_zero, List.set_cons_succ])
  go_cut [0] (fun v0 wc => ∃ (kq : Nat) (x0_2 : Int), v0 = .int .i64 x0_2 ∧ Aside0 (parquetryref01_Bytes.j0 kq x0_2 = some r) ∧ Aside0 (kq ≤ k) ∧ Aside0 (Below w.heap.size w wc))
  case first =>
    have H := HC3.out
    clear HC3
    by_cases c4 : t120 = true
    · subst c4
      have H1 : (parquetryref01_Bytes.j0 k a0) = some r := by rw [if_pos rfl] at H; exact H
      clear H
      have H := H1
      clear H1
      have H' := Aside0.mk H
      clear H
      go_wp2
      go_meet
      case rel => exact ⟨_, (a0), (by first | rfl | (simp; done) | (simp [*]; done)), H', ⟨by first | omega | exact Nat.le_refl _⟩, ⟨by repeat (first | (with_reducible first | exact HB.out | apply below_alloc | apply pw_below_drewN | apply below_drew1) | exact HB.out)⟩⟩
    · replace c4 := Bool.eq_false_iff.mpr c4
      subst c4
      have H1 : (parquetryref01_Bytes.j0 k 65533) = some r := by rw [if_neg (show ¬ (false = true) by decide)] at H; exact H
      clear H
      have H := H1
      clear H1
      have H' := Aside0.mk H
      clear H
      go_wp2
      go_meet
      case rel => exact ⟨_, (65533), (by first | rfl | (simp; done) | (simp [*]; done)), H', ⟨by first | omega | exact Nat.le_refl _⟩, ⟨by repeat (first | (with_reducible first | exact HB.out | apply below_alloc | apply pw_below_drewN | apply below_drew1) | exact HB.out)⟩⟩
  case rest =>
    clear HC3
    try clear p2
    try clear c4
    obtain ⟨kq, x0_2, rfl, HA, HJ2, HB⟩ := hcut
    cases kq with
    | zero => exact absurd HA.out (by simp [parquetryref01_Bytes.j0])
    | succ kj2 =>
      have H := HA.out
      clear HA
      simp only [parquetryref01_Bytes.j0] at H
      by_cases c5 : x0_2 < 128
      · rw [if_pos c5] at H
        have c5b0 : decide (x0_2 < 128) = true := decide_eq_true c5
        clear c5
        obtain ⟨y121, hy121⟩ : ∃ y_ : List Int, y_ = (([(x0_2) % 256] : List Int)) := ⟨_, rfl⟩
        replace H : (some y121) = some r := by first | (rw [hy121]; with_reducible exact H) | (have H2_ := (Option.bind_some _ _).symm.trans H; rw [hy121]; with_reducible exact H2_) | (have H2_ := (Option.bind_some _ _).symm.trans H; with_reducible exact H2_) | with_reducible exact H | (rw [hy121]; exact H) | exact H
        have Ny121 := Aside0.mk hy121
        clear hy121
        obtain rfl := Option.some.inj H
        go_wp2_with (first | ((with_reducible refine gate_dst (N := 10) rfl ?_); refine Kd.R_lit (Kd.int .u8) _ 5 ?hg (N := 10) ?hd (xs := ([(x0_2) % 256] : List Int)) (inner := [.int .u8 ((x0_2) % 256)]) (ok := fun _ => True) (okp := fun _ => True) ?hr ?hp (fun _ hk => hk) trivial (Below.refl _ _) (Nat.le_refl _) (by simp) ?_; (case hd => rfl); (case hg => rfl); (case hr => first | (go_simp; done) | (go_simp; rfl)); (case hp => exact (Reps.one (show Kd.M (Kd.int .u8) _ _ _ ((x0_2) % 256) [.int .u8 ((x0_2) % 256)] from rfl) (Reps.none _ _))); intro v122 w6 ho7 hb hg_ hnew_; clear hg_ hnew_; (first | rw [← Ny121.out] at ho7 | (simp only [Int.reduceToNat] at ho7; rw [← Ny121.out] at ho7)); have n0_ := Aside0.mk (Kd.R_lower ho7 (below_size (by repeat (first | (with_reducible first | exact HB.out | apply below_alloc | apply pw_below_drewN | apply below_drew1) | exact HB.out)))); have n1_ := Aside0.mk (below_step (by repeat (first | (with_reducible first | exact HB.out | apply below_alloc | apply pw_below_drewN | apply below_drew1) | exact HB.out)) hb); clear HB; have HO123 := n0_; have HB := n1_; clear n0_ n1_; clear hb ho7))
        go_ret
        exact ⟨_, by first | rfl | (simp [errW_none, errW_some] <;> rfl) | (simp [*, errW_none, errW_some] <;> rfl), by (with_reducible repeat (first | apply Kd.R_alloc | apply Kd.R_drewN | apply Kd.R_drew)); exact HO123.out, by repeat (first | (with_reducible first | exact HB.out | apply below_alloc | apply pw_below_drewN | apply below_drew1) | exact HB.out)⟩
      · rw [if_neg c5] at H
        have c5b0 : decide (x0_2 < 128) = false := decide_eq_false c5
        clear c5
        by_cases c8 : x0_2 < 2048
        · rw [if_pos c8] at H
          have c8b0 : decide (x0_2 < 2048) = true := decide_eq_true c8
          clear c8
          obtain ⟨y124, hy124⟩ : ∃ y_ : List Int, y_ = (([(wrap64 (192 + (wrap64 (Int.tdiv x0_2 64)))) % 256, (wrap64 (128 + (Int.tmod x0_2 64))) % 256] : List Int)) := ⟨_, rfl⟩
          replace H : (some y124) = some r := by first | (rw [hy124]; with_reducible exact H) | (have H2_ := (Option.bind_some _ _).symm.trans H; rw [hy124]; with_reducible exact H2_) | (have H2_ := (Option.bind_some _ _).symm.trans H; with_reducible exact H2_) | with_reducible exact H | (rw [hy124]; exact H) | exact H
          have Ny124 := Aside0.mk hy124
          clear hy124
          obtain rfl := Option.some.inj H
          go_wp2_with (first | ((with_reducible refine gate_dst (N := 21) rfl ?_); refine Kd.R_lit (Kd.int .u8) _ 5 ?hg (N := 21) ?hd (xs := ([(wrap64 (192 + (wrap64 (Int.tdiv x0_2 64)))) % 256, (wrap64 (128 + (Int.tmod x0_2 64))) % 256] : List Int)) (inner := [.int .u8 ((wrap64 (192 + (wrap64 (Int.tdiv x0_2 64)))) % 256), .int .u8 ((wrap64 (128 + (Int.tmod x0_2 64))) % 256)]) (ok := fun _ => True) (okp := fun _ => True) ?hr ?hp (fun _ hk => hk) trivial (Below.refl _ _) (Nat.le_refl _) (by simp) ?_; (case hd => rfl); (case hg => rfl); (case hr => first | (go_simp; done) | (go_simp; rfl)); (case hp => exact (Reps.one (show Kd.M (Kd.int .u8) _ _ _ ((wrap64 (192 + (wrap64 (Int.tdiv x0_2 64)))) % 256) [.int .u8 ((wrap64 (192 + (wrap64 (Int.tdiv x0_2 64)))) % 256)] from rfl) (Reps.one (show Kd.M (Kd.int .u8) _ _ _ ((wrap64 (128 + (Int.tmod x0_2 64))) % 256) [.int .u8 ((wrap64 (128 + (Int.tmod x0_2 64))) % 256)] from rfl) (Reps.none _ _)))); intro v125 w9 ho10 hb hg_ hnew_; clear hg_ hnew_; (first | rw [← Ny124.out] at ho10 | (simp only [Int.reduceToNat] at ho10; rw [← Ny124.out] at ho10)); have n0_ := Aside0.mk (Kd.R_lower ho10 (below_size (by repeat (first | (with_reducible first | exact HB.out | apply below_alloc | apply pw_below_drewN | apply below_drew1) | exact HB.out)))); have n1_ := Aside0.mk (below_step (by repeat (first | (with_reducible first | exact HB.out | apply below_alloc | apply pw_below_drewN | apply below_drew1) | exact HB.out)) hb); clear HB; have HO126 := n0_; have HB := n1_; clear n0_ n1_; clear hb ho10))
          go_ret
          exact ⟨_, by first | rfl | (simp [errW_none, errW_some] <;> rfl) | (simp [*, errW_none, errW_some] <;> rfl), by (with_reducible repeat (first | apply Kd.R_alloc | apply Kd.R_drewN | apply Kd.R_drew)); exact HO126.out, by repeat (first | (with_reducible first | exact HB.out | apply below_alloc | apply pw_below_drewN | apply below_drew1) | exact HB.out)⟩
        · rw [if_neg c8] at H
          have c8b0 : decide (x0_2 < 2048) = false := decide_eq_false c8
          clear c8
          by_cases c11 : x0_2 < 65536
          · rw [if_pos c11] at H
            have c11b0 : decide (x0_2 < 65536) = true := decide_eq_true c11
            clear c11
            obtain ⟨y127, hy127⟩ : ∃ y_ : List Int, y_ = (([(wrap64 (224 + (wrap64 (Int.tdiv x0_2 4096)))) % 256, (wrap64 (128 + (Int.tmod (wrap64 (Int.tdiv x0_2 64)) 64))) % 256, (wrap64 (128 + (Int.tmod x0_2 64))) % 256] : List Int)) := ⟨_, rfl⟩
            replace H : (some y127) = some r := by first | (rw [hy127]; with_reducible exact H) | (have H2_ := (Option.bind_some _ _).symm.trans H; rw [hy127]; with_reducible exact H2_) | (have H2_ := (Option.bind_some _ _).symm.trans H; with_reducible exact H2_) | with_reducible exact H | (rw [hy127]; exact H) | exact H
            have Ny127 := Aside0.mk hy127
            clear hy127
            obtain rfl := Option.some.inj H
            go_wp2_with (first | ((with_reducible refine gate_dst (N := 37) rfl ?_); refine Kd.R_lit (Kd.int .u8) _ 5 ?hg (N := 37) ?hd (xs := ([(wrap64 (224 + (wrap64 (Int.tdiv x0_2 4096)))) % 256, (wrap64 (128 + (Int.tmod (wrap64 (Int.tdiv x0_2 64)) 64))) % 256, (wrap64 (128 + (Int.tmod x0_2 64))) % 256] : List Int)) (inner := [.int .u8 ((wrap64 (224 + (wrap64 (Int.tdiv x0_2 4096)))) % 256), .int .u8 ((wrap64 (128 + (Int.tmod (wrap64 (Int.tdiv x0_2 64)) 64))) % 256), .int .u8 ((wrap64 (128 + (Int.tmod x0_2 64))) % 256)]) (ok := fun _ => True) (okp := fun _ => True) ?hr ?hp (fun _ hk => hk) trivial (Below.refl _ _) (Nat.le_refl _) (by simp) ?_; (case hd => rfl); (case hg => rfl); (case hr => first | (go_simp; done) | (go_simp; rfl)); (case hp => exact (Reps.one (show Kd.M (Kd.int .u8) _ _ _ ((wrap64 (224 + (wrap64 (Int.tdiv x0_2 4096)))) % 256) [.int .u8 ((wrap64 (224 + (wrap64 (Int.tdiv x0_2 4096)))) % 256)] from rfl) (Reps.one (show Kd.M (Kd.int .u8) _ _ _ ((wrap64 (128 + (Int.tmod (wrap64 (Int.tdiv x0_2 64)) 64))) % 256) [.int .u8 ((wrap64 (128 + (Int.tmod (wrap64 (Int.tdiv x0_2 64)) 64))) % 256)] from rfl) (Reps.one (show Kd.M (Kd.int .u8) _ _ _ ((wrap64 (128 + (Int.tmod x0_2 64))) % 256) [.int .u8 ((wrap64 (128 + (Int.tmod x0_2 64))) % 256)] from rfl) (Reps.none _ _))))); intro v128 w12 ho13 hb hg_ hnew_; clear hg_ hnew_; (first | rw [← Ny127.out] at ho13 | (simp only [Int.reduceToNat] at ho13; rw [← Ny127.out] at ho13)); have n0_ := Aside0.mk (Kd.R_lower ho13 (below_size (by repeat (first | (with_reducible first | exact HB.out | apply below_alloc | apply pw_below_drewN | apply below_drew1) | exact HB.out)))); have n1_ := Aside0.mk (below_step (by repeat (first | (with_reducible first | exact HB.out | apply below_alloc | apply pw_below_drewN | apply below_drew1) | exact HB.out)) hb); clear HB; have HO129 := n0_; have HB := n1_; clear n0_ n1_; clear hb ho13))
            go_ret
            exact ⟨_, by first | rfl | (simp [errW_none, errW_some] <;> rfl) | (simp [*, errW_none, errW_some] <;> rfl), by (with_reducible repeat (first | apply Kd.R_alloc | apply Kd.R_drewN | apply Kd.R_drew)); exact HO129.out, by repeat (first | (with_reducible first | exact HB.out | apply below_alloc | apply pw_below_drewN | apply below_drew1) | exact HB.out)⟩
          · rw [if_neg c11] at H
            have c11b0 : decide (x0_2 < 65536) = false := decide_eq_false c11
            clear c11
            obtain ⟨y130, hy130⟩ : ∃ y_ : List Int, y_ = (([(wrap64 (240 + (wrap64 (Int.tdiv x0_2 262144)))) % 256, (wrap64 (128 + (Int.tmod (wrap64 (Int.tdiv x0_2 4096)) 64))) % 256, (wrap64 (128 + (Int.tmod (wrap64 (Int.tdiv x0_2 64)) 64))) % 256, (wrap64 (128 + (Int.tmod x0_2 64))) % 256] : List Int)) := ⟨_, rfl⟩
            replace H : (some y130) = some r := by first | (rw [hy130]; with_reducible exact H) | (have H2_ := (Option.bind_some _ _).symm.trans H; rw [hy130]; with_reducible exact H2_) | (have H2_ := (Option.bind_some _ _).symm.trans H; with_reducible exact H2_) | with_reducible exact H | (rw [hy130]; exact H) | exact H
            have Ny130 := Aside0.mk hy130
            clear hy130
            obtain rfl := Option.some.inj H
            go_wp2_with (first | ((with_reducible refine gate_dst (N := 56) rfl ?_); refine Kd.R_lit (Kd.int .u8) _ 5 ?hg (N := 56) ?hd (xs := ([(wrap64 (240 + (wrap64 (Int.tdiv x0_2 262144)))) % 256, (wrap64 (128 + (Int.tmod (wrap64 (Int.tdiv x0_2 4096)) 64))) % 256, (wrap64 (128 + (Int.tmod (wrap64 (Int.tdiv x0_2 64)) 64))) % 256, (wrap64 (128 + (Int.tmod x0_2 64))) % 256] : List Int)) (inner := [.int .u8 ((wrap64 (240 + (wrap64 (Int.tdiv x0_2 262144)))) % 256), .int .u8 ((wrap64 (128 + (Int.tmod (wrap64 (Int.tdiv x0_2 4096)) 64))) % 256), .int .u8 ((wrap64 (128 + (Int.tmod (wrap64 (Int.tdiv x0_2 64)) 64))) % 256), .int .u8 ((wrap64 (128 + (Int.tmod x0_2 64))) % 256)]) (ok := fun _ => True) (okp := fun _ => True) ?hr ?hp (fun _ hk => hk) trivial (Below.refl _ _) (Nat.le_refl _) (by simp) ?_; (case hd => rfl); (case hg => rfl); (case hr => first | (go_simp; done) | (go_simp; rfl)); (case hp => exact (Reps.one (show Kd.M (Kd.int .u8) _ _ _ ((wrap64 (240 + (wrap64 (Int.tdiv x0_2 262144)))) % 256) [.int .u8 ((wrap64 (240 + (wrap64 (Int.tdiv x0_2 262144)))) % 256)] from rfl) (Reps.one (show Kd.M (Kd.int .u8) _ _ _ ((wrap64 (128 + (Int.tmod (wrap64 (Int.tdiv x0_2 4096)) 64))) % 256) [.int .u8 ((wrap64 (128 + (Int.tmod (wrap64 (Int.tdiv x0_2 4096)) 64))) % 256)] from rfl) (Reps.one (show Kd.M (Kd.int .u8) _ _ _ ((wrap64 (128 + (Int.tmod (wrap64 (Int.tdiv x0_2 64)) 64))) % 256) [.int .u8 ((wrap64 (128 + (Int.tmod (wrap64 (Int.tdiv x0_2 64)) 64))) % 256)] from rfl) (Reps.one (show Kd.M (Kd.int .u8) _ _ _ ((wrap64 (128 + (Int.tmod x0_2 64))) % 256) [.int .u8 ((wrap64 (128 + (Int.tmod x0_2 64))) % 256)] from rfl) (Reps.none _ _)))))); intro v131 w14 ho15 hb hg_ hnew_; clear hg_ hnew_; (first | rw [← Ny130.out] at ho15 | (simp only [Int.reduceToNat] at ho15; rw [← Ny130.out] at ho15)); have n0_ := Aside0.mk (Kd.R_lower ho15 (below_size (by repeat (first | (with_reducible first | exact HB.out | apply below_alloc | apply pw_below_drewN | apply below_drew1) | exact HB.out)))); have n1_ := Aside0.mk (below_step (by repeat (first | (with_reducible first | exact HB.out | apply below_alloc | apply pw_below_drewN | apply below_drew1) | exact HB.out)) hb); clear HB; have HO132 := n0_; have HB := n1_; clear n0_ n1_; clear hb ho15))
            go_ret
            exact ⟨_, by first | rfl | (simp [errW_none, errW_some] <;> rfl) | (simp [*, errW_none, errW_some] <;> rfl), by (with_reducible repeat (first | apply Kd.R_alloc | apply Kd.R_drewN | apply Kd.R_drew)); exact HO132.out, by repeat (first | (with_reducible first | exact HB.out | apply below_alloc | apply pw_below_drewN | apply below_drew1) | exact HB.out)⟩

/-! ### parquetryref01_Text: function 69 -/
def parquetryref01_Text.l0 : Nat → List Int → List Int → Int → Option (ByteArray)
  | 0, _, _, _ => none
  | k + 1, x0, x3, x4 => if x4 < (x0.length : Int) then (if 0 ≤ x4 then ((parquetryref01_Bytes.f k (rd x0 x4)).bind fun t134 => (if x3.length + t134.length < 140737488355328 then (parquetryref01_Text.l0 k x0 (x3 ++ t134) (wrap64 (x4 + 1))) else (none))) else (none)) else (some (strOfNums x3))
def parquetryref01_Text.f (k : Nat) (l0 : List Int) : Option (ByteArray) := parquetryref01_Text.l0 k l0 ([] : List Int) 0
theorem parquetryref01_Text.mono_l : ∀ k, (∀ y0 y1 y2, LeO (parquetryref01_Text.l0 k y0 y1 y2) (parquetryref01_Text.l0 (k + 1) y0 y1 y2))
  | 0 => fun _ _ _ r h => by simp [parquetryref01_Text.l0] at h
  | k + 1 => by
    have ih0 := parquetryref01_Text.mono_l k
    · intro y0 y1 y2
      unfold parquetryref01_Text.l0
      repeat' first
      | (with_reducible exact ih0 _ _ _)
      | (with_reducible exact parquetryref01_Bytes.mono _ _)
      | (with_reducible exact LeO.refl _)
      | (with_reducible exact LeO.none _)
      | (with_reducible refine LeO.ite ?_ ?_)
      | (with_reducible refine LeO.bind ?_ (fun _ => ?_))
      | exact ih0 _ _ _
      | exact parquetryref01_Bytes.mono _ _
      | exact LeO.none _
      | refine LeO.ite ?_ ?_
      | refine LeO.bind ?_ (fun _ => ?_)
theorem parquetryref01_Text.mono : ∀ a0 k, LeO (parquetryref01_Text.f k a0) (parquetryref01_Text.f (k + 1) a0) := by
  intro a0 k
  have ih0 := parquetryref01_Text.mono_l k
  unfold parquetryref01_Text.f
  repeat' first
      | (with_reducible exact ih0 _ _ _)
      | (with_reducible exact parquetryref01_Bytes.mono _ _)
      | (with_reducible exact LeO.refl _)
      | (with_reducible exact LeO.none _)
      | (with_reducible refine LeO.ite ?_ ?_)
      | (with_reducible refine LeO.bind ?_ (fun _ => ?_))
      | exact ih0 _ _ _
      | exact parquetryref01_Bytes.mono _ _
      | exact LeO.none _
      | refine LeO.ite ?_ ?_
      | refine LeO.bind ?_ (fun _ => ?_)
set_option maxHeartbeats 8000000 in
set_option maxRecDepth 100000 in
theorem parquetryref01_Text.calls (k : Nat) (A0 : Option Addr) (c0 : Nat) (l0 : List Int) (r : ByteArray) (w : World) (hr0 : Kd.C (Kd.int .i64) w A0 l0.length l0) (hc0 : l0.length ≤ c0) (h : parquetryref01_Text.f k l0 = some r) :
    Calls Try.prog 69 #[.slice A0 l0.length c0] w fun e w' => e = .returned (.string r) ∧ Below w.heap.size w w' := by
  have HR0 := Aside0.mk hr0
  have HC0 := Aside0.mk hc0
  clear hr0 hc0
  have HB := Aside0.mk (Below.refl w.heap.size w)
  have H : (parquetryref01_Text.l0 k l0 ([] : List Int) 0) = some r := h
  clear h
  have H' := Aside0.mk H
  clear H
  go_enter Try.func69, Try.ntmps69
  try dsimp only [List.append]
  go_wp2
  go_loopg [3, 4] k (fun kq v3 v4 w' => ∃ (x3_1 : List Int) (x4_1 : Int), v4 = .int .i64 x4_1 ∧ Aside0 (parquetryref01_Text.l0 kq l0 x3_1 x4_1 = some r) ∧ Aside0 (kq ≤ k) ∧ Aside0 (Kd.R (Kd.int .u8) 5 w' w.heap.size (fun _ => True) v3 x3_1) ∧ Aside0 (Below w.heap.size w w'))
  case atStart => exact ⟨(([] : List Int)), (0), (by first | rfl | (simp; done) | (simp [*]; done)), H', ⟨Nat.le_refl _⟩, ⟨by first | exact Kd.R_nil _ _ _ _ _ | exact Kd.N_nil _ _ _ _ _ | exact Kd.V_nil _ _ _ _ _ | exact Kd.Q_nil _ _ _ _ _ | exact Kd.S_nil _ _ _ _ _⟩, ⟨by repeat (first | (with_reducible first | exact HB.out | apply below_alloc | apply pw_below_drewN | apply below_drew1) | exact HB.out)⟩⟩
  case round =>
    clear H'
    obtain ⟨x3_1, x4_1, rfl, HA, HK1, HO_3, HB⟩ := hrel
    cases gk with
    | zero => exact absurd HA.out (by simp [parquetryref01_Text.l0])
    | succ k1 =>
      have H := HA.out
      clear HA
      simp only [parquetryref01_Text.l0] at H
      by_cases c2 : x4_1 < (l0.length : Int)
      · rw [if_pos c2] at H
        have c2b0 : decide (x4_1 < (l0.length : Int)) = true := decide_eq_true c2
        clear c2
        by_cases c3 : 0 ≤ x4_1
        · rw [if_pos c3] at H
          have c3b0 : decide (0 ≤ x4_1) = true := decide_eq_true c3
          clear c3
          replace H := Option.bind_eq_some_iff.mp H
          obtain ⟨t134, A40, H⟩ := H
          replace H : (if x3_1.length + t134.length < 140737488355328 then (parquetryref01_Text.l0 k1 l0 (x3_1 ++ t134) (wrap64 (x4_1 + 1))) else (none)) = some r := H
          have A4 := Aside0.mk A40
          clear A40
          by_cases c5 : x3_1.length + t134.length < 140737488355328
          · rw [if_pos c5] at H
            have LMc5 := Aside0.mk c5
            clear c5
            obtain ⟨y137, hy137⟩ : ∃ y_ : List Int, y_ = (x3_1 ++ t134) := ⟨_, rfl⟩
            replace H : (parquetryref01_Text.l0 k1 l0 y137 (wrap64 (x4_1 + 1))) = some r := by first | (rw [hy137]; with_reducible exact H) | (have H2_ := (Option.bind_some _ _).symm.trans H; rw [hy137]; with_reducible exact H2_) | (have H2_ := (Option.bind_some _ _).symm.trans H; with_reducible exact H2_) | with_reducible exact H | (rw [hy137]; exact H) | exact H
            have Ny137 := Aside0.mk hy137
            clear hy137
            have H' := Aside0.mk H
            clear H
            have p133 : 0 ≤ (x4_1 : Int) := of_decide_eq_true (by first | (with_reducible assumption) | assumption)
            have q133 : x4_1 < (l0.length : Int) := of_decide_eq_true (by first | (with_reducible assumption) | assumption)
            obtain ⟨ad133, e133, hx133_0⟩ := Kd.at_int HR0.out x4_1 p133 q133
            cases e133
            replace hx133_0 := (HB.out.cell (World.block_lt_of_cell? w _ hx133_0)).trans hx133_0
            replace p133 := eq_true p133
            replace q133 := eq_true q133
            go_wp2_with (first | ((with_reducible refine gate_callee (f := 75) rfl ?_); refine goesL_ (some 16) rfl rfl Try.func75 (by kernel_rfl) rfl #[.int .i64 (rd l0 x4_1)] rfl (by (try simp only [List.map_toArray, List.map_cons, List.map_nil]); first | done | rfl | (simp only [List.length_drop, List.length_take]; rfl)) ?_; (with_reducible refine (parquetryref01_Bytes.calls k1 (rd l0 x4_1) t134 _ A4.out).mono ?_); rintro e w6 ⟨v135, rfl, ho0, hb⟩; refine ⟨_, rfl, ?_⟩; have n0_ := Aside0.mk (Kd.R_elder' (by (with_reducible repeat (first | apply Kd.R_alloc | apply Kd.R_drewN | apply Kd.R_drew)); exact HO_3.out) (Kd.R_base ho0) hb); have n1_ := Aside0.mk (Kd.R_lower (Kd.R_new' ho0 (Kd.R_lt (by (with_reducible repeat (first | apply Kd.R_alloc | apply Kd.R_drewN | apply Kd.R_drew)); exact HO_3.out))) (below_size (by repeat (first | (with_reducible first | exact HB.out | apply below_alloc | apply pw_below_drewN | apply below_drew1) | exact HB.out)))); have n2_ := Aside0.mk (below_step (by repeat (first | (with_reducible first | exact HB.out | apply below_alloc | apply pw_below_drewN | apply below_drew1) | exact HB.out)) hb); clear HO_3; clear HB; have HO_3 := n0_; have HO136 := n1_; have HB := n2_; clear n0_ n1_ n2_; (try clear hb); (try clear hb2); (try clear hk); (try clear hi); (try clear ho0); obtain ⟨Ao8, co8, eo8⟩ := Kd.R_slice HO136.out; subst eo8) | ((with_reducible refine gate_builtin (b := .append) (xs := #[.tmp 11, .tmp 16]) rfl ?_); at_builtin; refine Kd.R_append_rows (Kd.int .u8) (w0 := w) w.heap.size rfl (.tmp 11) (.tmp 16) 90 5 (.int .u8 0) 1 rfl Try.underlying90 info5 rfl (by decide) (by omega) u3 x3_1 t134 _ _ _ (fun k_ => some k_ ≠ (.slice Ao8 t134.length co8 : Value).ownBlock) (fun _ => False) rfl rfl ?aO ?aR (fun _ _ h => h) (fun _ h => h.elim) ?aF ?aB ?aS ?aL ?_; (case aR => repeat (first | exact (Kd.R_reads' HO136.out).2.2 | (with_reducible refine Kd.C_alloc ?_ _) | (with_reducible refine Kd.C_drewN ?_ _) | (with_reducible refine Kd.C_drew ?_))); (case aB => exact (by repeat (first | (with_reducible first | exact HB.out | apply below_alloc | apply pw_below_drewN | apply below_drew1) | exact HB.out))); (case aF => exact (fun k_ hk => Kd.fresh' (Kd.R_lt (by (with_reducible repeat (first | apply Kd.R_alloc | apply Kd.R_drewN | apply Kd.R_drew)); exact HO136.out)) k_ hk)); (case aO => exact (by (with_reducible repeat (first | apply Kd.R_alloc | apply Kd.R_drewN | apply Kd.R_drew)); exact Kd.R_mono HO_3.out (fun _ hk => hk.2))); (case aS => exact (below_size (by repeat (first | (with_reducible first | exact HB.out | apply below_alloc | apply pw_below_drewN | apply below_drew1) | exact HB.out)))); (case aL => have := LMc5.out; omega); intro v138 w7 ho hb hg hat; rw [← Ny137.out] at ho; have n0_ := Aside0.mk (Kd.R_after (ok := (fun _ => True)) (by (with_reducible repeat (first | apply Kd.R_alloc | apply Kd.R_drewN | apply Kd.R_drew)); exact HO136.out) hg hat); have n1_ := Aside0.mk (hb); have n2_ := Aside0.mk (ho); clear HO136; clear HB; clear HO_3; have HO136 := n0_; have HB := n1_; have HO139 := n2_; clear n0_ n1_ n2_; clear ho hb hg hat))
            go_roundg k1
            case measure => have := HK1.out; omega
            case rel => exact ⟨(y137), (wrap64 (x4_1 + 1)), (by first | rfl | (simp; done) | (simp [*]; done)), H', ⟨by have := HK1.out; omega⟩, ⟨by (with_reducible repeat (first | apply Kd.R_alloc | apply Kd.R_drewN | apply Kd.R_drew)); exact Kd.R_mono HO139.out (fun _ hk => trivial)⟩, ⟨by repeat (first | (with_reducible first | exact HB.out | apply below_alloc | apply pw_below_drewN | apply below_drew1) | exact HB.out)⟩⟩
          · rw [if_neg c5] at H
            exact absurd H (by simp)
        · rw [if_neg c3] at H
          exact absurd H (by simp)
      · rw [if_neg c2] at H
        have c2b0 : decide (x4_1 < (l0.length : Int)) = false := decide_eq_false c2
        clear c2
        obtain rfl := Option.some.inj H
        have hcv9 := own_string (P := Try.prog) Try.underlying90 Try.underlying5 Try.underlying9 (Kd.own_of_R HO_3.out)
        go_wp2
        go_ret
        exact ⟨by first | rfl | (simp [errW_none, errW_some] <;> rfl) | (simp [*, errW_none, errW_some] <;> rfl), by repeat (first | (with_reducible first | exact HB.out | apply below_alloc | apply pw_below_drewN | apply below_drew1) | exact HB.out)⟩

end Go.Proofs.Ytgbkfjdkejjmpaa.PC06
