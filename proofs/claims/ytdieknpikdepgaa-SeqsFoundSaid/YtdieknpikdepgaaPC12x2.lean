/- For the laws of the group C12: the Lean functions that the Go functions compute, and proofs that they do. Written by wip/hprint.py of this repo over the kit's printer; nothing here is trusted: Lean checks it. -/
import Derived.Test.YtdieknpikdepgaaPC12x0
import Derived.Test.YtdieknpikdepgaaPC12x1
namespace Go.Proofs.Ytdieknpikdepgaa.PC12
open Go.RowKit Go.Proofs.YtdieknpikdepgaaW.PrintWords Go.Proofs.YtdieknpikdepgaaW.PrintLast Go.Proofs.YtdieknpikdepgaaW.PrintMore
attribute [local go_sem] max2_int min2_int max_two min_two max_three min_three max_four min_four   -- for this text's walks alone
set_option linter.unusedVariables false
set_option linter.unusedSimpArgs false

/-! ### level_Explicit: function 12: by hand -/
abbrev level_Explicit.E := S54
section
open Go.Proofs.YtdieknpikdepgaaH
/-- What is open, in memory. -/
def level_Explicit.At (W : World) (base g : Nat) (v : Value) (p q z : Nat) (st : List level_Explicit.E) : Prop :=
 W.heap[g]? = some (.cells #[.int .i64 (p : Int), .int .i64 (q : Int), v, .int .i64 (z : Int)] 59 (0, 0)) ∧ Kd.R k54 54 W base (fun k => k ≠ g) v st.reverse ∧ base ≤ g
theorem level_Explicit.at_cells {W : World} {base g : Nat} {v : Value} {p q z : Nat} {st : List level_Explicit.E} (h : level_Explicit.At W base g v p q z st) :
  W.cell? ⟨g, 0, none⟩ = some (.int .i64 (p : Int)) ∧ W.cell? ⟨g, 1, none⟩ = some (.int .i64 (q : Int)) ∧ W.cell? ⟨g, 2, none⟩ = some v ∧ W.cell? ⟨g, 3, none⟩ = some (.int .i64 (z : Int)) :=
 ⟨(blk_cell h.1 0).trans rfl, (blk_cell h.1 1).trans rfl, (blk_cell h.1 2).trans rfl, (blk_cell h.1 3).trans rfl⟩
theorem level_Explicit.at_frozen {W : World} {base g : Nat} {v : Value} {p q z : Nat} {st : List level_Explicit.E} (h : level_Explicit.At W base g v p q z st) (j : Nat) : W.frozen? ⟨g, j, none⟩ = false := blk_frozen h.1 j
theorem level_Explicit.at_top {W : World} {base g : Nat} {v : Value} {p q z : Nat} {x : level_Explicit.E} {st : List level_Explicit.E} (h : level_Explicit.At W base g v p q z (x :: st)) :
  ∃ g2 c, v = .slice (some ⟨g2, 0, none⟩) (st.length + 1) c ∧ W.cell? ⟨g2, st.length * 3, none⟩ = some (.int .i64 x.f0) ∧ W.cell? ⟨g2, st.length * 3 + 1, none⟩ = some (.int .i64 x.f1) ∧ W.cell? ⟨g2, st.length * 3 + 2, none⟩ = some (.bool x.f2) := by
 obtain ⟨g2, c, rfl, hgb, hgl, hty⟩ := Kd.R_form h.2.1 (by simp)
 have hl : (x :: st).reverse.length = st.length + 1 := by simp
 obtain ⟨A, c', he, hlc, hC⟩ := Kd.R_reads h.2.1
 rw [hl] at he hC
 injection he with he _ _
 subst he
 obtain ⟨ad, hA, hcell⟩ := hC.2.2 (by omega)
 injection hA with hA
 subst hA
 obtain ⟨cs, _, hK, hcc⟩ := hcell st.length x (by rw [List.reverse_cons, List.getElem?_append_right (by simp), List.length_reverse, Nat.sub_self]; rfl)
 obtain rfl := k54_open hK
 have ea : ∀ m, (⟨g2, 0, none⟩ : Addr).add m = ⟨g2, m, none⟩ := fun m => by
  by_cases h0 : m = 0
  ·
   rw [h0]; rfl
  ·
   simp [Addr.add, h0]
 refine ⟨g2, c, by rw [hl], ?_, ?_, ?_⟩
 ·
  have := hcc 0 _ rfl
  rw [ea] at this
  exact this
 ·
  have := hcc 1 _ rfl
  rw [ea] at this
  exact this
 ·
  have := hcc 2 _ rfl
  rw [ea] at this
  exact this
set_option maxHeartbeats 2000000 in
set_option maxRecDepth 100000 in
theorem level_Explicit.last_calls {W : World} {base g : Nat} {v : Value} {p q z : Nat} {x : level_Explicit.E} {st : List level_Explicit.E} (h : level_Explicit.At W base g v p q z (x :: st)) (hs : st.length < 1000000) :
  Calls Try.prog 30 #[.pointer (some ⟨g, 0, none⟩)] W fun e w' => e = .returned (.agg #[.int .i64 x.f0, .int .i64 x.f1, .bool x.f2]) ∧ Below W.heap.size W w' := by
 obtain ⟨-, -, c2, -⟩ := level_Explicit.at_cells h
 obtain ⟨g2, c, rfl, e0, e1, e2⟩ := level_Explicit.at_top h
 have hg := blk_lt h.1
 have hg2 : g2 < W.heap.size := World.block_lt_of_cell? W _ e0
 clear h
 generalize hn : st.length = n at *
 clear hn st
 go_enter Try.func30, Try.ntmps30
 have HB := Aside0.mk (Below.refl W.heap.size W)
 go_wp2_with ((with_reducible refine gate_dst (N := 2) rfl ?_); refine alloc_event rfl 54 rfl 3 (by kernel_rfl) ?_; intro g3 w1 cs hcs hg3 hb hbel hsz; have c2' := (hbel.cell (p := ⟨g, 2, none⟩) hg).trans c2; have e0' := (hbel.cell (p := ⟨g2, n * 3, none⟩) hg2).trans e0; have e1' := (hbel.cell (p := ⟨g2, n * 3 + 1, none⟩) hg2).trans e1; have e2' := (hbel.cell (p := ⟨g2, n * 3 + 2, none⟩) hg2).trans e2; have HB1 := Aside0.mk hbel; have HG3 := Aside0.mk hg3; have HK := Aside0.mk hb; have HCS := Aside0.mk hcs; clear hcs hg3 hb hbel hsz c2 e0 e1 e2 HB)
 have hwr : IntKind.i64.wrap (n : Int) = (n : Int) := by rw [IntKind.wrap_i64]; omega
 have hlt := eq_true (show (n : Int) < (n : Int) + 1 by omega)
 go_still_tail 12, (by kernel_rfl)
 change wpList _ _ _ _ _ w1.drew
 generalize hw2 : w1.drew = w2
 have HB2 := Aside0.mk (show Below W.heap.size W w2 by rw [← hw2]; exact below_drew1 HB1.out)
 have HK2 := Aside0.mk (show w2.heap[g3]? = some (.cells cs 54 (0, 0)) by rw [← hw2]; exact HK.out)
 clear hw2 hwr hlt c2' e0' e1' e2' HB1 HK
 refine block_store rfl rfl 54 (.tmp 2) (.tmp 14) rfl rfl (.agg #[.int .i64 x.f0, .int .i64 x.f1, .bool x.f2]) rfl HK2.out (by rw [HCS.out]; rfl) (by rw [HCS.out]; kernel_rfl) (fun q hq => ?_) ?_
 ·
  have hq' : q ∈ [Value.int .i64 x.f0, .int .i64 x.f1, .bool x.f2] := hq
  simp only [List.mem_cons, List.not_mem_nil, or_false] at hq'
  rcases hq' with rfl | rfl | rfl <;> rfl
 intro w3 hb3 hk3 hs3 hB3
 have HB3 := Aside0.mk (hB3 _ _ HB2.out (by rw [HG3.out]; exact Nat.le_refl _))
 clear hk3 hs3 hB3
 refine wpList_nil ?_
 go_wp2
 exact bodyPost_ret (v := .agg #[.int .i64 x.f0, .int .i64 x.f1, .bool x.f2]) (results_c1 rfl _ _ _ _ _ _ _ rfl hb3 Try.underlying54 rfl (by kernel_rfl)) rfl ⟨rfl, HB3.out⟩
theorem level_Explicit.fld0 (a b : Int) (c : Bool) (W : World) : (Instr.field 54 (.agg #[.int .i64 a, .int .i64 b, .bool c]) 0).run Try.prog W = .ok (.int .i64 a) W := by kernel_rfl
theorem level_Explicit.fld1 (a b : Int) (c : Bool) (W : World) : (Instr.field 54 (.agg #[.int .i64 a, .int .i64 b, .bool c]) 1).run Try.prog W = .ok (.int .i64 b) W := by kernel_rfl
theorem level_Explicit.fld2 (a b : Int) (c : Bool) (W : World) : (Instr.field 54 (.agg #[.int .i64 a, .int .i64 b, .bool c]) 2).run Try.prog W = .ok (.bool c) W := by kernel_rfl
/-- The least level above one that is odd, or even. -/
def level_Explicit.nx (lev odd : Int) : Int := if bits .and .i64 (lev + 1) 1 = odd then lev + 1 else lev + 1 + 1
attribute [local go_sem] level_Explicit.fld0 level_Explicit.fld1 level_Explicit.fld2
set_option maxHeartbeats 2000000 in
set_option maxRecDepth 100000 in
theorem level_Explicit.next_calls {W : World} {base g : Nat} {v : Value} {p q z : Nat} {x : level_Explicit.E} {st : List level_Explicit.E} (h : level_Explicit.At W base g v p q z (x :: st)) (hs : st.length < 1000000) (h0 : 0 ≤ x.f0) (h1 : x.f0 ≤ 125) (odd : Int) :
  Calls Try.prog 54 #[.pointer (some ⟨g, 0, none⟩), .int .i64 odd] W fun e w' => e = .returned (.int .i64 (level_Explicit.nx x.f0 odd)) ∧ Below W.heap.size W w' := by
 have HL := Aside0.mk (level_Explicit.last_calls h hs)
 clear h hs
 unfold level_Explicit.nx
 generalize x.f0 = lv at *
 have hw : IntKind.i64.wrap (lv + 1) = lv + 1 := by rw [IntKind.wrap_i64]; omega
 by_cases hb : bits .and .i64 (lv + 1) 1 = odd
 ·
  rw [if_pos hb]
  have hb1 : (bits .and .i64 (lv + 1) 1 != odd) = false := by rw [bne, beq_iff_eq.2 hb]; rfl
  clear hb
  go_enter Try.func54, Try.ntmps54
  go_wp2_with (go_at_call 30; refine (HL.out).mono ?_; rintro e w2 ⟨rfl, hb2⟩; have HB := Aside0.mk hb2; clear hb2)
  go_ret
  exact ⟨rfl, HB.out⟩
 ·
  rw [if_neg hb]
  have hb1 : (bits .and .i64 (lv + 1) 1 != odd) = true := by rw [bne, beq_eq_false_iff_ne.2 hb]; rfl
  clear hb
  go_enter Try.func54, Try.ntmps54
  go_wp2_with (go_at_call 30; refine (HL.out).mono ?_; rintro e w2 ⟨rfl, hb2⟩; have HB := Aside0.mk hb2; clear hb2)
  go_ret
  exact ⟨rfl, HB.out⟩
set_option maxHeartbeats 2000000 in
set_option maxRecDepth 100000 in
theorem level_Explicit.seen_calls {W : World} {base g : Nat} {v : Value} {p q z : Nat} {x : level_Explicit.E} {st : List level_Explicit.E} (h : level_Explicit.At W base g v p q z (x :: st)) (hs : st.length < 1000000) (c : Int) :
  Calls Try.prog 34 #[.pointer (some ⟨g, 0, none⟩), .int .i64 c] W fun e w' => e = .returned (.int .i64 (if x.f1 = -1 then c else x.f1)) ∧ Below W.heap.size W w' := by
 have HL := Aside0.mk (level_Explicit.last_calls h hs)
 clear h hs
 generalize x.f1 = ov at *
 by_cases hb : ov = -1
 ·
  rw [if_pos hb]
  subst hb
  go_enter Try.func34, Try.ntmps34
  go_wp2_with (go_at_call 30; refine (HL.out).mono ?_; rintro e w2 ⟨rfl, hb2⟩; have HB := Aside0.mk hb2; clear hb2)
  go_ret
  exact ⟨rfl, HB.out⟩
 ·
  rw [if_neg hb]
  have hb1 : (ov != -1) = true := by rw [bne, beq_eq_false_iff_ne.2 hb]; rfl
  clear hb
  go_enter Try.func34, Try.ntmps34
  go_wp2_with (go_at_call 30; refine (HL.out).mono ?_; rintro e w2 ⟨rfl, hb2⟩; have HB := Aside0.mk hb2; clear hb2)
  go_ret
  exact ⟨rfl, HB.out⟩
/-- What another block keeps, where what is open is written. -/
def level_Explicit.Kp (W W' : World) (base g : Nat) (v v' : Value) : Prop :=
 Below base W W' ∧ (∀ k, k < W.heap.size → k ≠ g → some k ≠ v.ownBlock → W'.heap[k]? = W.heap[k]?) ∧ (v'.ownBlock = v.ownBlock ∨ ∃ b, v'.ownBlock = some b ∧ W.heap.size ≤ b)
def level_Explicit.MP (W : World) (base g : Nat) (v : Value) (p q z : Nat) (st : List level_Explicit.E) (W' : World) : Prop := ∃ v', level_Explicit.At W' base g v' p q z st ∧ level_Explicit.Kp W W' base g v v'
theorem level_Explicit.at_below {W W' : World} {base g : Nat} {v : Value} {p q z : Nat} {st : List level_Explicit.E} (h : level_Explicit.At W base g v p q z st) (hb : Below W.heap.size W W') : level_Explicit.At W' base g v p q z st :=
 ⟨blk_below h.1 hb, Kd.R_below h.2.1 hb, h.2.2⟩
theorem level_Explicit.at_base {W : World} {base g : Nat} {v : Value} {p q z : Nat} {st : List level_Explicit.E} (h : level_Explicit.At W base g v p q z st) : base ≤ W.heap.size := Nat.le_trans h.2.2 (Nat.le_of_lt (blk_lt h.1))
theorem level_Explicit.kp_below {W W' : World} {base g : Nat} {v : Value} (hbase : base ≤ W.heap.size) (hb : Below W.heap.size W W') : level_Explicit.Kp W W' base g v v :=
 ⟨hb.mono hbase, fun k hk _ _ => hb.block k hk, .inl rfl⟩
theorem level_Explicit.kp_trans {W W1 W2 : World} {base g : Nat} {v v1 v2 : Value} (h1 : level_Explicit.Kp W W1 base g v v1) (h2 : level_Explicit.Kp W1 W2 base g v1 v2) : level_Explicit.Kp W W2 base g v v2 := by
 obtain ⟨a1, a2, a3⟩ := h1
 obtain ⟨b1, b2, b3⟩ := h2
 refine ⟨a1.trans b1, fun k hk hg hv => ?_, ?_⟩
 ·
  rw [b2 k (Nat.lt_of_lt_of_le hk a1.size) hg ?_]
  ·
   exact a2 k hk hg hv
  ·
   rcases a3 with h | ⟨b, h, hb⟩
   ·
    rw [h]; exact hv
   ·
    rw [h]
    intro he
    have : k = b := by simpa using he
    omega
 ·
  rcases b3 with h | ⟨b, h, hb⟩
  ·
   rw [h]
   exact a3
  ·
   exact .inr ⟨b, h, Nat.le_trans a1.size hb⟩
/-- A cell of what is open is written. -/
theorem level_Explicit.at_set {W : World} {base g : Nat} {v : Value} {p q z : Nat} {st : List level_Explicit.E} (h : level_Explicit.At W base g v p q z st) (j : Nat) (u : Value) (p' q' z' : Nat)
  (he : #[.int .i64 (p : Int), .int .i64 (q : Int), v, .int .i64 (z : Int)].setIfInBounds j u = #[.int .i64 (p' : Int), .int .i64 (q' : Int), v, .int .i64 (z' : Int)]) :
  level_Explicit.MP W base g v p' q' z' st (W.setCell ⟨g, j, none⟩ u) :=
 ⟨v, ⟨he ▸ blk_set h.1 j u, Kd.R_far (p := ⟨g, j, none⟩) h.2.1 (fun _ hk => hk) u, h.2.2⟩,
  (Below.refl _ _).setCell h.2.2 _, fun k _ hg _ => Below.heap_setCell W ⟨g, j, none⟩ u k hg, .inl rfl⟩
theorem level_Explicit.mp_of_below {W : World} {base g : Nat} {v : Value} {p q z : Nat} {st : List level_Explicit.E} (h : level_Explicit.At W base g v p q z st) {W' : World} (hb : Below W.heap.size W W') : level_Explicit.MP W base g v p q z st W' :=
 ⟨v, level_Explicit.at_below h hb, level_Explicit.kp_below (level_Explicit.at_base h) hb⟩
theorem level_Explicit.mp_trans {W W1 W2 : World} {base g : Nat} {v v1 : Value} {p q z : Nat} {st : List level_Explicit.E} (h1 : level_Explicit.Kp W W1 base g v v1) (h2 : level_Explicit.MP W1 base g v1 p q z st W2) : level_Explicit.MP W base g v p q z st W2 := by
 obtain ⟨v2, ha, hk⟩ := h2
 exact ⟨v2, ha, level_Explicit.kp_trans h1 hk⟩
def level_Explicit.pushOk (p q : Nat) (n : Int) : Bool := !(decide (n > 125) || (decide (0 < p) || decide (0 < q)))
set_option maxHeartbeats 4000000 in
set_option maxRecDepth 100000 in
theorem level_Explicit.push_calls {W : World} {base g : Nat} {v : Value} {p q z : Nat} {x : level_Explicit.E} {st : List level_Explicit.E} (h : level_Explicit.At W base g v p q z (x :: st)) (hs : st.length < 1000000) (h0 : 0 ≤ x.f0) (h1 : x.f0 ≤ 125) (hp : p < 1000000) (hq : q < 1000000) (odd over : Int) (iso : Bool) :
  Calls Try.prog 45 #[.pointer (some ⟨g, 0, none⟩), .int .i64 odd, .int .i64 over, .bool iso] W fun e w' => e = .returned (.bool (level_Explicit.pushOk p q (level_Explicit.nx x.f0 odd))) ∧ level_Explicit.MP W base g v p q z (if level_Explicit.pushOk p q (level_Explicit.nx x.f0 odd) = true then (⟨level_Explicit.nx x.f0 odd, over, iso⟩ : level_Explicit.E) :: x :: st else x :: st) w' := by
 have HN := Aside0.mk (level_Explicit.next_calls h hs h0 h1 odd)
 have HA := Aside0.mk h
 have hbase := level_Explicit.at_base h
 generalize level_Explicit.nx x.f0 odd = n at *
 cases hok : level_Explicit.pushOk p q n with
 | false =>
  simp only [if_neg (show ¬ (false = true) by decide)]
  simp only [level_Explicit.pushOk, Bool.not_eq_false', Bool.or_eq_true, decide_eq_true_eq] at hok
  by_cases c1 : 125 < n
  ·
   have b1 : decide (125 < n) = true := decide_eq_true c1
   clear hok c1 h hs h0 h1 hp hq hbase
   go_enter Try.func45, Try.ntmps45
   go_wp2_with (go_at_call 54; refine (HN.out).mono ?_; rintro e w2 ⟨rfl, hb2⟩; have HB := Aside0.mk hb2; clear hb2)
   go_ret
   exact ⟨rfl, level_Explicit.mp_of_below HA.out HB.out⟩
  ·
   have b1 : decide (125 < n) = false := decide_eq_false c1
   by_cases c2 : 0 < p
   ·
    have b2 : decide ((0 : Int) < (p : Int)) = true := decide_eq_true (by omega)
    have b2' : decide (0 < p) = true := decide_eq_true c2
    have hg := blk_lt h.1
    obtain ⟨c0_, -, -, -⟩ := level_Explicit.at_cells h
    clear hok c1 c2 h hs h0 h1 hp hq hbase
    go_enter Try.func45, Try.ntmps45
    go_wp2_with (go_at_call 54; refine (HN.out).mono ?_; rintro e w2 ⟨rfl, hb2⟩; have c0' := (hb2.cell (p := ⟨g, 0, none⟩) hg).trans c0_; have HB := Aside0.mk hb2; clear hb2 c0_)
    go_ret
    exact ⟨rfl, level_Explicit.mp_of_below HA.out HB.out⟩
   ·
    obtain rfl : p = 0 := by omega
    have hq2 : 0 < q := by omega
    have b2 : decide ((0 : Int) < (q : Int)) = true := decide_eq_true (by omega)
    have b2' : decide (0 < q) = true := decide_eq_true hq2
    have hg := blk_lt h.1
    obtain ⟨c0_, c1_, -, -⟩ := level_Explicit.at_cells h
    clear hok c1 c2 h hs h0 h1 hp hq hbase hq2
    go_enter Try.func45, Try.ntmps45
    go_wp2_with (go_at_call 54; refine (HN.out).mono ?_; rintro e w2 ⟨rfl, hb2⟩; have c0' := (hb2.cell (p := ⟨g, 0, none⟩) hg).trans c0_; have c1' := (hb2.cell (p := ⟨g, 1, none⟩) hg).trans c1_; have HB := Aside0.mk hb2; clear hb2 c0_ c1_)
    go_ret
    exact ⟨rfl, level_Explicit.mp_of_below HA.out HB.out⟩
 | true =>
  simp only [if_true]
  simp only [level_Explicit.pushOk, Bool.not_eq_true', Bool.or_eq_false_iff, decide_eq_false_iff_not] at hok
  obtain ⟨c1, c2, c3⟩ := hok
  obtain rfl : p = 0 := by omega
  obtain rfl : q = 0 := by omega
  have b1 : decide (125 < n) = false := decide_eq_false c1
  have hg := blk_lt h.1
  have hgb := h.2.2
  obtain ⟨c0_, c1_, -, -⟩ := level_Explicit.at_cells h
  obtain ⟨gv, cv, rfl, -⟩ := level_Explicit.at_top h
  clear c1 c2 c3 h0 h1 hp hq h
  go_enter Try.func45, Try.ntmps45
  go_wp2_with (first | (go_at_call 54; refine (HN.out).mono ?_; rintro e w2 ⟨rfl, hb2⟩; have c0' := (hb2.cell (p := ⟨g, 0, none⟩) hg).trans c0_; have c1' := (hb2.cell (p := ⟨g, 1, none⟩) hg).trans c1_; have HA2 := Aside0.mk (level_Explicit.at_below HA.out hb2); have HK := Aside0.mk (level_Explicit.kp_below (v := .slice (some ⟨gv, 0, none⟩) (st.length + 1) cv) (g := g) hbase hb2); obtain ⟨-, -, c2', -⟩ := level_Explicit.at_cells HA2.out; have hg2 := blk_lt HA2.out.1; clear hb2 c0_ c1_) | ((with_reducible refine gate_builtin (b := .append) (xs := #[.tmp 35, .tmp 40]) rfl ?_); at_builtin; refine Kd.R_append k54 (w0 := w2) base rfl (.tmp 35) (.tmp 40) 55 54 (.agg #[.int .i64 0, .int .i64 0, .bool false]) 24 rfl Try.underlying55 info54 rfl (by decide) (by omega) (.slice (some ⟨gv, 0, none⟩) (st.length + 1) cv) (x :: st).reverse (⟨n, over, iso⟩ : level_Explicit.E) [.int .i64 n, .int .i64 over, .bool iso] (fun k => k ≠ g) (fun _ => False) rfl rfl ?aP (fun _ hk => hk.elim) ?aF ?aO ?aB ?aS ?aL ?_; (case aP => exact k54_mkM _ _ _ _); (case aB => exact Below.refl _ _); (case aF => intro k hk he; subst he; have := hg2; omega); (case aO => exact HA2.out.2.1); (case aS => have := hg2; have := hgb; omega); (case aL => simp <;> omega); intro v9 w9 ho hb hgr hat; obtain ⟨A9, c9, rfl⟩ := Kd.R_slice ho; have hlen_ : ((x :: st).reverse ++ [(⟨n, over, iso⟩ : level_Explicit.E)]).length = st.length + 2 := (by simp); rw [hlen_] at ho hat; clear hlen_; have HO := Aside0.mk ho; have HB9 := Aside0.mk hb; have HG9 := Aside0.mk hgr; have HAT := Aside0.mk hat; have hgk : some g ≠ (Value.slice (some ⟨gv, 0, none⟩) (st.length + 1) cv).ownBlock := fun he => HA2.out.2.1.1 g he.symm rfl; have hK9 := blk_grown HA2.out.1 HG9.out hgk; have f2 : w9.cell? ⟨g, 2, none⟩ = some (.slice (some ⟨gv, 0, none⟩) (st.length + 1) cv) := (blk_cell hK9 2).trans rfl; have f3 := blk_frozen hK9 2; have HK9 := Aside0.mk hK9; have HGK := Aside0.mk hgk; clear ho hb hgr hat hK9 hgk))
  go_ret
  refine ⟨rfl, level_Explicit.mp_trans HK.out ⟨_, ⟨blk_set HK9.out 2 _, ?_, hgb⟩, ?_, ?_, ?_⟩⟩
  ·
   have := Kd.R_far (p := ⟨g, 2, none⟩) HO.out (fun _ hk => hk) (Value.slice A9 (st.length + 2) c9)
   rw [List.reverse_cons (a := (⟨n, over, iso⟩ : level_Explicit.E))]
   exact this
  ·
   exact HB9.out.setCell hgb _
  ·
   intro k hk hkg hkv
   rw [Below.heap_setCell _ ⟨g, 2, none⟩ _ k hkg]
   exact HG9.out.block k hk hkv
  ·
   exact HAT.out
set_option maxHeartbeats 2000000 in
set_option maxRecDepth 100000 in
theorem level_Explicit.embed_calls {W : World} {base g : Nat} {v : Value} {p q z : Nat} {x : level_Explicit.E} {st : List level_Explicit.E} (h : level_Explicit.At W base g v p q z (x :: st)) (hs : st.length < 1000000) (h0 : 0 ≤ x.f0) (h1 : x.f0 ≤ 125) (hp : p < 1000000) (hq : q < 1000000) (odd over : Int) :
  Calls Try.prog 31 #[.pointer (some ⟨g, 0, none⟩), .int .i64 odd, .int .i64 over] W fun e w' => e = .returned (.tuple #[]) ∧ level_Explicit.MP W base g v p (if level_Explicit.pushOk p q (level_Explicit.nx x.f0 odd) = true then q else if p = 0 then q + 1 else q) z (if level_Explicit.pushOk p q (level_Explicit.nx x.f0 odd) = true then (⟨level_Explicit.nx x.f0 odd, over, false⟩ : level_Explicit.E) :: x :: st else x :: st) w' := by
 have HP := Aside0.mk (level_Explicit.push_calls h hs h0 h1 hp hq odd over false)
 have hg := blk_lt h.1
 clear h hs h0 h1
 generalize level_Explicit.nx x.f0 odd = n at *
 cases hok : level_Explicit.pushOk p q n with
 | true =>
  simp only [hok, if_true] at HP ⊢
  clear hok hp hq
  go_enter Try.func31, Try.ntmps31
  go_wp2_with (go_at_call 45; refine (HP.out).mono ?_; rintro e w2 ⟨rfl, hm⟩; have HM := Aside0.mk hm; clear hm)
  exact bodyPost_end (v := .tuple #[]) (results_none rfl _ _ _) rfl ⟨rfl, HM.out⟩
 | false =>
  simp only [hok, if_neg (show ¬ (false = true) by decide)] at HP ⊢
  clear hok
  by_cases c : p = 0
  ·
   subst c
   simp only [if_true]
   go_enter Try.func31, Try.ntmps31
   go_wp2_with (go_at_call 45; refine (HP.out).mono ?_; rintro e w2 ⟨rfl, v2, ha, hk⟩; have HA := Aside0.mk ha; have HK := Aside0.mk hk; obtain ⟨c0_, c1_, -, -⟩ := level_Explicit.at_cells ha; have f1_ := level_Explicit.at_frozen ha 1; clear ha hk)
   refine bodyPost_end (v := .tuple #[]) (results_none rfl _ _ _) rfl ⟨rfl, level_Explicit.mp_trans HK.out (level_Explicit.at_set HA.out 1 _ 0 (q + 1) z ?_)⟩
   rfl
  ·
   simp only [if_neg c]
   have b1 : ((p : Int) == 0) = false := beq_eq_false_iff_ne.2 (by omega)
   have b2 : (p == 0) = false := beq_eq_false_iff_ne.2 c
   clear c
   go_enter Try.func31, Try.ntmps31
   go_wp2_with (go_at_call 45; refine (HP.out).mono ?_; rintro e w2 ⟨rfl, v2, ha, hk⟩; have HA := Aside0.mk ha; have HK := Aside0.mk hk; obtain ⟨c0_, -, -, -⟩ := level_Explicit.at_cells ha; clear ha hk)
   exact bodyPost_end (v := .tuple #[]) (results_none rfl _ _ _) rfl ⟨rfl, _, HA.out, HK.out⟩
set_option maxHeartbeats 2000000 in
set_option maxRecDepth 100000 in
theorem level_Explicit.isolate_calls {W : World} {base g : Nat} {v : Value} {p q z : Nat} {x : level_Explicit.E} {st : List level_Explicit.E} (h : level_Explicit.At W base g v p q z (x :: st)) (hs : st.length < 1000000) (h0 : 0 ≤ x.f0) (h1 : x.f0 ≤ 125) (hp : p < 1000000) (hq : q < 1000000) (hz : z < 1000000) (odd : Int) :
  Calls Try.prog 35 #[.pointer (some ⟨g, 0, none⟩), .int .i64 odd] W fun e w' => e = .returned (.tuple #[]) ∧ level_Explicit.MP W base g v (if level_Explicit.pushOk p q (level_Explicit.nx x.f0 odd) = true then p else p + 1) q (if level_Explicit.pushOk p q (level_Explicit.nx x.f0 odd) = true then z + 1 else z) (if level_Explicit.pushOk p q (level_Explicit.nx x.f0 odd) = true then (⟨level_Explicit.nx x.f0 odd, -1, true⟩ : level_Explicit.E) :: x :: st else x :: st) w' := by
 have HP := Aside0.mk (level_Explicit.push_calls h hs h0 h1 hp hq odd (-1) true)
 have hg := blk_lt h.1
 clear h hs h0 h1
 generalize level_Explicit.nx x.f0 odd = n at *
 cases hok : level_Explicit.pushOk p q n with
 | true =>
  simp only [hok, if_true] at HP ⊢
  clear hok hp hq
  go_enter Try.func35, Try.ntmps35
  go_wp2_with (go_at_call 45; refine (HP.out).mono ?_; rintro e w2 ⟨rfl, v2, ha, hk⟩; have HA := Aside0.mk ha; have HK := Aside0.mk hk; obtain ⟨-, -, -, c3_⟩ := level_Explicit.at_cells ha; have f3_ := level_Explicit.at_frozen ha 3; clear ha hk)
  refine bodyPost_end (v := .tuple #[]) (results_none rfl _ _ _) rfl ⟨rfl, level_Explicit.mp_trans HK.out (level_Explicit.at_set HA.out 3 _ p q (z + 1) ?_)⟩
  rfl
 | false =>
  simp only [hok, if_neg (show ¬ (false = true) by decide)] at HP ⊢
  clear hok
  go_enter Try.func35, Try.ntmps35
  go_wp2_with (go_at_call 45; refine (HP.out).mono ?_; rintro e w2 ⟨rfl, v2, ha, hk⟩; have HA := Aside0.mk ha; have HK := Aside0.mk hk; obtain ⟨c0_, -, -, -⟩ := level_Explicit.at_cells ha; have f0_ := level_Explicit.at_frozen ha 0; clear ha hk)
  refine bodyPost_end (v := .tuple #[]) (results_none rfl _ _ _) rfl ⟨rfl, level_Explicit.mp_trans HK.out (level_Explicit.at_set HA.out 0 _ (p + 1) q z ?_)⟩
  rfl
set_option maxHeartbeats 2000000 in
set_option maxRecDepth 100000 in
theorem level_Explicit.pop_calls {W : World} {base g : Nat} {v : Value} {p q z : Nat} {x : level_Explicit.E} {st : List level_Explicit.E} (h : level_Explicit.At W base g v p q z (x :: st)) (hs : st.length < 1000000) :
  Calls Try.prog 46 #[.pointer (some ⟨g, 0, none⟩)] W fun e w' => e = .returned (.tuple #[]) ∧ level_Explicit.MP W base g v p q z st w' := by
 have HA := Aside0.mk h
 have hg := blk_lt h.1
 have hgb := h.2.2
 obtain ⟨-, -, c2_, -⟩ := level_Explicit.at_cells h
 have f2_ := level_Explicit.at_frozen h 2
 obtain ⟨gv, cv, rfl, -⟩ := level_Explicit.at_top h
 have hcap := (Kd.R_reads' h.2.1).2.1
 have hrev : (x :: st).reverse.length = st.length + 1 := by simp
 have hR := Kd.R_take (m := st.length) h.2.1 (by rw [hrev]; omega)
 rw [show (x :: st).reverse.take st.length = st.reverse from by rw [List.reverse_cons, List.take_append_of_le_length (by simp), List.take_of_length_le (by simp)]] at hR
 have HR := Aside0.mk hR
 obtain ⟨i0, hi0, _, _, _⟩ := info_parts info54
 have hcut := cut_to (P := Try.prog) 55 54 .i64 Try.underlying55 hi0 (some ⟨gv, 0, none⟩) (st.length + 1) cv (st.length : Int) (by omega) (by omega) hcap
 rw [Int.toNat_natCast] at hcut
 have hwr : IntKind.i64.wrap (st.length : Int) = (st.length : Int) := by rw [IntKind.wrap_i64]; omega
 clear h hR hi0 hrev
 generalize hn : st.length = n at *
 go_enter Try.func46, Try.ntmps46
 go_still_tail 14, (by kernel_rfl)
 change wpList _ _ _ _ _ W.drew
 have HB2 := Aside0.mk (show Below W.heap.size W W.drew from below_drew1 (Below.refl _ _))
 generalize W.drew = w2 at HB2 ⊢
 have c2' := (HB2.out.cell (p := ⟨g, 2, none⟩) hg).trans c2_
 have f2' := level_Explicit.at_frozen (level_Explicit.at_below HA.out HB2.out) 2
 clear c2_ f2_ hcut hwr
 go_wp2
 refine bodyPost_end (v := .tuple #[]) (results_none rfl _ _ _) rfl ⟨rfl, level_Explicit.mp_trans (level_Explicit.kp_below (level_Explicit.at_base HA.out) HB2.out) ⟨_, ⟨blk_set (level_Explicit.at_below HA.out HB2.out).1 2 _, Kd.R_far (p := ⟨g, 2, none⟩) (Kd.R_below HR.out HB2.out) (fun _ hk => hk) _, hgb⟩, (Below.refl _ _).setCell hgb _, fun k _ hkg _ => Below.heap_setCell _ ⟨g, 2, none⟩ _ k hkg, .inl rfl⟩⟩
set_option maxHeartbeats 2000000 in
set_option maxRecDepth 100000 in
theorem level_Explicit.ends_calls {W : World} {base g : Nat} {v : Value} {p q z : Nat} {x : level_Explicit.E} {st : List level_Explicit.E} (h : level_Explicit.At W base g v p q z (x :: st)) (hs : st.length < 1000000) (hp : p < 1000000) (hq : q < 1000000) :
  Calls Try.prog 32 #[.pointer (some ⟨g, 0, none⟩)] W fun e w' => e = .returned (.tuple #[]) ∧ level_Explicit.MP W base g v p (if 0 < p then q else q - 1) z (if 0 < p ∨ 0 < q ∨ x.f2 = true ∨ st = [] then x :: st else st) w' := by
 have HA := Aside0.mk h
 have hg := blk_lt h.1
 obtain ⟨c0_, c1_, -, -⟩ := level_Explicit.at_cells h
 have f1_ := level_Explicit.at_frozen h 1
 by_cases c1 : 0 < p
 ·
  rw [if_pos c1, if_pos (.inl c1)]
  have b1 : decide ((0 : Int) < (p : Int)) = true := decide_eq_true (by omega)
  have b1' : decide (0 < p) = true := decide_eq_true c1
  clear c1 h f1_ c1_
  go_enter Try.func32, Try.ntmps32
  go_wp2
  exact bodyPost_end (v := .tuple #[]) (results_none rfl _ _ _) rfl ⟨rfl, level_Explicit.mp_of_below HA.out (Below.refl _ _)⟩
 ·
  obtain rfl : p = 0 := by omega
  rw [if_neg c1]
  by_cases c2 : 0 < q
  ·
   rw [if_pos (.inr (.inl c2))]
   have b2 : decide ((0 : Int) < (q : Int)) = true := decide_eq_true (by omega)
   have b2' : decide (0 < q) = true := decide_eq_true c2
   have hq1 : ((q : Int) - 1) = ((q - 1 : Nat) : Int) := by omega
   have HQ := Aside0.mk hq1
   clear c1 h hq1
   go_enter Try.func32, Try.ntmps32
   go_wp2
   refine bodyPost_end (v := .tuple #[]) (results_none rfl _ _ _) rfl ⟨rfl, level_Explicit.at_set HA.out 1 _ 0 (q - 1) z ?_⟩
   rw [← HQ.out]
   rfl
  ·
   obtain rfl : q = 0 := by omega
   have HL := Aside0.mk (level_Explicit.last_calls h hs)
   by_cases c3 : x.f2 = true
   ·
    rw [if_pos (.inr (.inr (.inl c3)))]
    rw [c3] at HL
    clear c1 c2 h f1_
    go_enter Try.func32, Try.ntmps32
    go_wp2_with (go_at_call 30; refine (HL.out).mono ?_; rintro e w2 ⟨rfl, hb2⟩; have HB := Aside0.mk hb2; clear hb2)
    exact bodyPost_end (v := .tuple #[]) (results_none rfl _ _ _) rfl ⟨rfl, level_Explicit.mp_of_below HA.out HB.out⟩
   ·
    have c3b := Bool.eq_false_iff.2 c3
    rw [c3b] at HL
    cases st with
    | nil =>
     rw [if_pos (by simp)]
     obtain ⟨-, -, c2_, -⟩ := level_Explicit.at_cells h
     obtain ⟨gv, cv, rfl, -⟩ := level_Explicit.at_top h
     clear c1 c2 c3 h f1_
     go_enter Try.func32, Try.ntmps32
     go_wp2_with (go_at_call 30; refine (HL.out).mono ?_; rintro e w2 ⟨rfl, hb2⟩; have c2' := (hb2.cell (p := ⟨g, 2, none⟩) hg).trans c2_; have HB := Aside0.mk hb2; clear hb2 c2_)
     exact bodyPost_end (v := .tuple #[]) (results_none rfl _ _ _) rfl ⟨rfl, level_Explicit.mp_of_below HA.out HB.out⟩
    | cons y st =>
     rw [if_neg (by simp [c3b])]
     obtain ⟨-, -, c2_, -⟩ := level_Explicit.at_cells h
     obtain ⟨gv, cv, rfl, -⟩ := level_Explicit.at_top h
     have b4 : decide ((1 : Int) < (((y :: st).length + 1 : Nat) : Int)) = true := decide_eq_true (by simp only [List.length_cons]; omega)
     clear c1 c2 c3 h f1_
     go_enter Try.func32, Try.ntmps32
     go_wp2_with (first | (go_at_call 30; refine (HL.out).mono ?_; rintro e w2 ⟨rfl, hb2⟩; have c2' := (hb2.cell (p := ⟨g, 2, none⟩) hg).trans c2_; have HB := Aside0.mk hb2; clear hb2 c2_) | (go_at_call 46; refine (level_Explicit.pop_calls (level_Explicit.at_below HA.out HB.out) hs).mono ?_; rintro e w3 ⟨rfl, hm⟩; have HM := Aside0.mk hm; clear hm))
     exact bodyPost_end (v := .tuple #[]) (results_none rfl _ _ _) rfl ⟨rfl, level_Explicit.mp_trans (level_Explicit.kp_below (level_Explicit.at_base HA.out) HB.out) HM.out⟩
def level_Explicit.drp (st : List level_Explicit.E) : List level_Explicit.E := st.dropWhile fun e => !e.f2
theorem level_Explicit.drp_cons (x : level_Explicit.E) (st : List level_Explicit.E) : level_Explicit.drp (x :: st) = if x.f2 = true then x :: st else level_Explicit.drp st := by
 unfold level_Explicit.drp
 rw [List.dropWhile_cons]
 cases x.f2 <;> rfl
set_option maxHeartbeats 4000000 in
set_option maxRecDepth 100000 in
theorem level_Explicit.closes_calls {W : World} {base g : Nat} {v : Value} {p q z : Nat} {st : List level_Explicit.E} (h : level_Explicit.At W base g v p q z st) (hs : st.length < 1000000) (hp : p < 1000000) (hz : z < 1000000) (hi : 0 < z → (st.any fun e => e.f2) = true) :
  Calls Try.prog 33 #[.pointer (some ⟨g, 0, none⟩)] W fun e w' => e = .returned (.tuple #[]) ∧ level_Explicit.MP W base g v (p - 1) (if p = 0 ∧ 0 < z then 0 else q) (if p = 0 then z - 1 else z) (if p = 0 ∧ 0 < z then (level_Explicit.drp st).tail else st) w' := by
 have HA := Aside0.mk h
 have hg := blk_lt h.1
 obtain ⟨c0_, c1_, -, c3_⟩ := level_Explicit.at_cells h
 have f0_ := level_Explicit.at_frozen h 0
 have f1_ := level_Explicit.at_frozen h 1
 have hbase := level_Explicit.at_base h
 by_cases c1 : 0 < p
 ·
  rw [if_neg (by omega), if_neg (by omega), if_neg (by omega)]
  have b1 : decide ((0 : Int) < (p : Int)) = true := decide_eq_true (by omega)
  have b1' : decide (0 < p) = true := decide_eq_true c1
  have hp1 : ((p : Int) - 1) = ((p - 1 : Nat) : Int) := by omega
  have HP := Aside0.mk hp1
  clear c1 h hi hp1 f1_ c1_ c3_
  go_enter Try.func33, Try.ntmps33
  go_wp2
  refine bodyPost_end (v := .tuple #[]) (results_none rfl _ _ _) rfl ⟨rfl, level_Explicit.at_set HA.out 0 _ (p - 1) q z ?_⟩
  rw [← HP.out]
  rfl
 ·
  obtain rfl : p = 0 := by omega
  rw [if_pos rfl]
  by_cases c2 : 0 < z
  ·
   rw [if_pos ⟨rfl, c2⟩, if_pos ⟨rfl, c2⟩]
   have b2 : decide ((0 : Int) < (z : Int)) = true := decide_eq_true (by omega)
   have b2' : decide (0 < z) = true := decide_eq_true c2
   have hz1 : ((z : Int) - 1) = ((z - 1 : Nat) : Int) := by omega
   have HZ := Aside0.mk hz1
   have HI := Aside0.mk (hi c2)
   have HS := Aside0.mk hs
   clear c1 h hi hz1 c2 hs
   go_enter Try.func33, Try.ntmps33
   go_wp2
   have HM := Aside0.mk (level_Explicit.at_set HA.out 1 (.int .i64 0) 0 0 z rfl)
   generalize W.setCell ⟨g, 1, none⟩ (.int .i64 0) = w1 at HM ⊢
   clear c0_ c1_ c3_ f0_ f1_
   go_loopg [28] st.length (fun kx s28 w' => ∃ (v' : Value) (st' : List level_Explicit.E), Aside0 (level_Explicit.At w' base g v' 0 0 z st') ∧ Aside0 (level_Explicit.Kp W w' base g v v') ∧ Aside0 (level_Explicit.drp st' = level_Explicit.drp st) ∧ Aside0 (st'.length ≤ st.length) ∧ Aside0 ((st'.any fun e => e.f2) = true) ∧ st'.length ≤ kx)
   case atStart =>
    obtain ⟨v', ha, hk⟩ := HM.out
    exact ⟨v', st, ⟨ha⟩, ⟨hk⟩, ⟨rfl⟩, ⟨Nat.le_refl _⟩, HI, Nat.le_refl _⟩
   case round =>
    clear HM
    obtain ⟨v', st', HA1, HK1, HD, HL1, HI1, hkx⟩ := hrel
    cases st' with
    | nil => exact absurd HI1.out (by simp)
    | cons x t =>
     have HL := Aside0.mk (level_Explicit.last_calls HA1.out (by have := HL1.out; have := HS.out; simp only [List.length_cons] at *; omega))
     have HP := Aside0.mk (fun (W2 : World) (hb : Below wr.heap.size wr W2) => level_Explicit.pop_calls (level_Explicit.at_below HA1.out hb) (by have := HL1.out; have := HS.out; simp only [List.length_cons] at *; omega))
     by_cases hx : x.f2 = true
     ·
      rw [hx] at HL
      have HD2 := Aside0.mk (show (level_Explicit.drp st).tail = t by rw [← HD.out, level_Explicit.drp_cons, if_pos hx]; rfl)
      clear hx
      go_wp2_with (first | (go_at_call 30; refine (HL.out).mono ?_; rintro e w2 ⟨rfl, hb2⟩; have HB := Aside0.mk hb2; clear hb2) | (go_at_call 46; refine (HP.out _ HB.out).mono ?_; rintro e w3 ⟨rfl, v3, ha3, hk3⟩; have HA3 := Aside0.mk ha3; have HK3 := Aside0.mk hk3; obtain ⟨-, -, -, c3_⟩ := level_Explicit.at_cells ha3; have f3_ := level_Explicit.at_frozen ha3 3; clear ha3 hk3))
      refine bodyPost_end (v := .tuple #[]) (results_none rfl _ _ _) rfl ⟨rfl, level_Explicit.mp_trans (level_Explicit.kp_trans HK1.out (level_Explicit.kp_trans (level_Explicit.kp_below (level_Explicit.at_base HA1.out) HB.out) HK3.out)) ?_⟩
      rw [HD2.out]
      refine level_Explicit.at_set HA3.out 3 _ 0 0 (z - 1) ?_
      rw [← HZ.out]
      rfl
     ·
      have hxb := Bool.eq_false_iff.2 hx
      rw [hxb] at HL
      have HD2 := Aside0.mk (show level_Explicit.drp t = level_Explicit.drp st by rw [← HD.out, level_Explicit.drp_cons, if_neg hx])
      have HI2 := Aside0.mk (show (t.any fun e => e.f2) = true by have := HI1.out; simpa [hxb] using this)
      have HT := Aside0.mk (show t.length ≤ st.length by have := HL1.out; simp only [List.length_cons] at this; omega)
      clear hx hxb
      go_wp2_with (first | (go_at_call 30; refine (HL.out).mono ?_; rintro e w2 ⟨rfl, hb2⟩; have HB := Aside0.mk hb2; clear hb2) | (go_at_call 46; refine (HP.out _ HB.out).mono ?_; rintro e w3 ⟨rfl, v3, ha3, hk3⟩; have HA3 := Aside0.mk ha3; have HK3 := Aside0.mk hk3; clear ha3 hk3))
      go_roundg t.length
      case measure => simp only [List.length_cons] at hkx; omega
      case rel => exact ⟨v3, t, HA3, ⟨level_Explicit.kp_trans HK1.out (level_Explicit.kp_trans (level_Explicit.kp_below (level_Explicit.at_base HA1.out) HB.out) HK3.out)⟩, HD2, HT, HI2, Nat.le_refl _⟩
  ·
   obtain rfl : z = 0 := by omega
   rw [if_neg (by omega), if_neg (by omega)]
   clear c1 h hi c2 f0_ f1_ c1_
   go_enter Try.func33, Try.ntmps33
   go_wp2
   exact bodyPost_end (v := .tuple #[]) (results_none rfl _ _ _) rfl ⟨rfl, level_Explicit.mp_of_below HA.out (Below.refl _ _)⟩
end
/-- What is open, and what was lost. -/
structure level_Explicit.S where
 p : Nat
 q : Nat
 z : Nat
 st : List level_Explicit.E
def level_Explicit.top (s : level_Explicit.S) : level_Explicit.E := s.st.headD ⟨0, 0, false⟩
/-- What the walk asks of it. -/
def level_Explicit.gd (s : level_Explicit.S) : Bool := !s.st.isEmpty && decide (0 ≤ (level_Explicit.top s).f0) && decide ((level_Explicit.top s).f0 ≤ 125) && decide (s.st.length < 1000000) && decide (s.p < 1000000) && decide (s.q < 1000000) && decide (s.z < 1000000) && (decide (s.z = 0) || s.st.any fun e => e.f2)
def level_Explicit.emb (s : level_Explicit.S) (odd over : Int) : level_Explicit.S :=
 ⟨s.p, if level_Explicit.pushOk s.p s.q (level_Explicit.nx (level_Explicit.top s).f0 odd) = true then s.q else if s.p = 0 then s.q + 1 else s.q, s.z, if level_Explicit.pushOk s.p s.q (level_Explicit.nx (level_Explicit.top s).f0 odd) = true then (⟨level_Explicit.nx (level_Explicit.top s).f0 odd, over, false⟩ : level_Explicit.E) :: s.st else s.st⟩
def level_Explicit.iso (s : level_Explicit.S) (odd : Int) : level_Explicit.S :=
 ⟨if level_Explicit.pushOk s.p s.q (level_Explicit.nx (level_Explicit.top s).f0 odd) = true then s.p else s.p + 1, s.q, if level_Explicit.pushOk s.p s.q (level_Explicit.nx (level_Explicit.top s).f0 odd) = true then s.z + 1 else s.z, if level_Explicit.pushOk s.p s.q (level_Explicit.nx (level_Explicit.top s).f0 odd) = true then (⟨level_Explicit.nx (level_Explicit.top s).f0 odd, -1, true⟩ : level_Explicit.E) :: s.st else s.st⟩
def level_Explicit.pdf (s : level_Explicit.S) : level_Explicit.S := ⟨s.p, if 0 < s.p then s.q else s.q - 1, s.z, if 0 < s.p ∨ 0 < s.q ∨ (level_Explicit.top s).f2 = true ∨ s.st.tail = [] then s.st else s.st.tail⟩
def level_Explicit.pdi (s : level_Explicit.S) : level_Explicit.S := ⟨s.p - 1, if s.p = 0 ∧ 0 < s.z then 0 else s.q, if s.p = 0 then s.z - 1 else s.z, if s.p = 0 ∧ 0 < s.z then (level_Explicit.drp s.st).tail else s.st⟩
def level_Explicit.see (s : level_Explicit.S) (c : Int) : Int := if (level_Explicit.top s).f1 = -1 then c else (level_Explicit.top s).f1
/-- What is open behind a class that embeds, overrides, or ends one. -/
def level_Explicit.s1 (s : level_Explicit.S) (c : Int) : level_Explicit.S := if c = 16 then level_Explicit.emb s 1 (-1) else if c = 14 then level_Explicit.emb s 0 (-1) else if c = 17 then level_Explicit.emb s 1 1 else if c = 15 then level_Explicit.emb s 0 0 else if c = 18 then level_Explicit.pdf s else if c = 22 then level_Explicit.pdi s else s
def level_Explicit.at1 (a1 : Int) (s : level_Explicit.S) (c : Int) : Int := if c = 10 then a1 else if c = 22 then (level_Explicit.top (level_Explicit.pdi s)).f0 else (level_Explicit.top s).f0
def level_Explicit.as1 (s : level_Explicit.S) (c : Int) : Int := if c = 10 then c else if c = 16 then c else if c = 14 then c else if c = 17 then c else if c = 15 then c else if c = 18 then c else if c = 22 then level_Explicit.see (level_Explicit.pdi s) c else if c = 9 then c else level_Explicit.see s c
/-- Behind an initiator. -/
def level_Explicit.s2 (K : Nat) (l0 m : List Int) (i : Nat) (c : Int) (s : level_Explicit.S) : Option level_Explicit.S :=
 if c = 20 then some (level_Explicit.iso s 1) else if c = 19 then some (level_Explicit.iso s 0) else if c = 21 then (if (i : Int) < m.length ∧ (i : Int) + 1 ≤ rd m i ∧ rd m i ≤ l0.length then (base_Level.f K ((l0.take (rd m i).toNat).drop (i + 1))).bind fun r => some (level_Explicit.iso s r.1) else none) else some s
def level_Explicit.lp (K : Nat) : Nat → List Int → List Int → Int → level_Explicit.S → List Int → List Int → Option (List Int × List Int)
 | 0, _, _, _, _, _, _ => none
 | k + 1, l0, m, a1, s, ls, ts => if ls.length < l0.length then (if ls.length < 1000000 ∧ level_Explicit.gd s = true ∧ level_Explicit.gd (level_Explicit.s1 s (rd l0 (ls.length : Int))) = true then (level_Explicit.s2 K l0 m ls.length (rd l0 (ls.length : Int)) (level_Explicit.s1 s (rd l0 (ls.length : Int)))).bind fun s' => (level_Removed.f (rd l0 (ls.length : Int))).bind fun rm => level_Explicit.lp K k l0 m a1 s' (ls ++ [if rm = true then -1 else level_Explicit.at1 a1 s (rd l0 (ls.length : Int))]) (ts ++ [level_Explicit.as1 s (rd l0 (ls.length : Int))]) else none) else some (ls, ts)
def level_Explicit.f (k : Nat) (l0 : List Int) (a1 : Int) : Option (List Int × List Int) := if a1 = 0 ∨ a1 = 1 then (base_Match.f k l0).bind fun m => level_Explicit.lp k k l0 m a1 ⟨0, 0, 0, [⟨a1, -1, false⟩]⟩ [] [] else some ([], [])
theorem level_Explicit.mono_s2 (K : Nat) (l0 m : List Int) (i : Nat) (c : Int) (s : level_Explicit.S) : LeO (level_Explicit.s2 K l0 m i c s) (level_Explicit.s2 (K + 1) l0 m i c s) := by
 unfold level_Explicit.s2
 repeat (first | exact LeO.refl _ | exact base_Level.mono _ _ | refine LeO.ite ?_ ?_ | refine LeO.bind ?_ (fun x => ?_))
theorem level_Explicit.mono_l (K : Nat) : ∀ k, ∀ y0 y1 y2 y3 y4 y5, LeO (level_Explicit.lp K k y0 y1 y2 y3 y4 y5) (level_Explicit.lp (K + 1) (k + 1) y0 y1 y2 y3 y4 y5) := by
 intro k
 induction k with
 | zero => intro y0 y1 y2 y3 y4 y5 r h; simp [level_Explicit.lp] at h
 | succ k ih =>
  intro y0 y1 y2 y3 y4 y5
  conv => lhs; rw [level_Explicit.lp]
  conv => rhs; rw [level_Explicit.lp]
  repeat (first | exact LeO.refl _ | exact ih _ _ _ _ _ _ | exact level_Explicit.mono_s2 _ _ _ _ _ _ | refine LeO.ite ?_ ?_ | refine LeO.bind ?_ (fun x => ?_))
theorem level_Explicit.mono : ∀ a0 a1 k, LeO (level_Explicit.f k a0 a1) (level_Explicit.f (k + 1) a0 a1) := by
 intro a0 a1 k
 unfold level_Explicit.f
 refine LeO.ite (LeO.bind (base_Match.mono _ _) (fun x => level_Explicit.mono_l k k _ _ _ _ _ _)) (LeO.refl _)
section
open Go.Proofs.YtdieknpikdepgaaH
def level_Explicit.AtS (W : World) (base g : Nat) (v : Value) (s : level_Explicit.S) : Prop := level_Explicit.At W base g v s.p s.q s.z s.st
def level_Explicit.MPS (W : World) (base g : Nat) (v : Value) (s : level_Explicit.S) (W' : World) : Prop := ∃ v', level_Explicit.AtS W' base g v' s ∧ level_Explicit.Kp W W' base g v v'
theorem level_Explicit.gd_open {s : level_Explicit.S} (h : level_Explicit.gd s = true) : ∃ x t, s.st = x :: t ∧ level_Explicit.top s = x ∧ t.length < 1000000 ∧ 0 ≤ x.f0 ∧ x.f0 ≤ 125 ∧ s.p < 1000000 ∧ s.q < 1000000 ∧ s.z < 1000000 ∧ (0 < s.z → (s.st.any fun e => e.f2) = true) := by
 obtain ⟨p, q, z, st⟩ := s
 cases st with
 | nil => simp [level_Explicit.gd] at h
 | cons x t =>
  simp only [level_Explicit.gd, level_Explicit.top, List.headD_cons, Bool.and_eq_true, Bool.or_eq_true, decide_eq_true_eq, List.length_cons] at h
  obtain ⟨⟨⟨⟨⟨⟨⟨-, h1⟩, h2⟩, h3⟩, h4⟩, h5⟩, h6⟩, h7⟩ := h
  exact ⟨x, t, rfl, rfl, by omega, of_decide_eq_true h1, of_decide_eq_true h2, h4, h5, h6, fun hz => h7.resolve_left (by have h0 : 0 < z := hz; omega)⟩
theorem level_Explicit.lastS {W : World} {base g : Nat} {v : Value} {s : level_Explicit.S} (h : level_Explicit.AtS W base g v s) (hg : level_Explicit.gd s = true) :
  Calls Try.prog 30 #[.pointer (some ⟨g, 0, none⟩)] W fun e w' => e = .returned (.agg #[.int .i64 (level_Explicit.top s).f0, .int .i64 (level_Explicit.top s).f1, .bool (level_Explicit.top s).f2]) ∧ Below W.heap.size W w' := by
 obtain ⟨x, t, h1, h2, h3, h4, h5, h6, h7, h8, h9⟩ := level_Explicit.gd_open hg
 unfold level_Explicit.AtS at h
 rw [h1] at h
 rw [h2]
 exact level_Explicit.last_calls h h3
theorem level_Explicit.seeS {W : World} {base g : Nat} {v : Value} {s : level_Explicit.S} (h : level_Explicit.AtS W base g v s) (hg : level_Explicit.gd s = true) (c : Int) :
  Calls Try.prog 34 #[.pointer (some ⟨g, 0, none⟩), .int .i64 c] W fun e w' => e = .returned (.int .i64 (level_Explicit.see s c)) ∧ Below W.heap.size W w' := by
 obtain ⟨x, t, h1, h2, h3, h4, h5, h6, h7, h8, h9⟩ := level_Explicit.gd_open hg
 unfold level_Explicit.AtS at h
 rw [h1] at h
 unfold level_Explicit.see
 rw [h2]
 exact level_Explicit.seen_calls h h3 c
theorem level_Explicit.embS {W : World} {base g : Nat} {v : Value} {s : level_Explicit.S} (h : level_Explicit.AtS W base g v s) (hg : level_Explicit.gd s = true) (odd over : Int) :
  Calls Try.prog 31 #[.pointer (some ⟨g, 0, none⟩), .int .i64 odd, .int .i64 over] W fun e w' => e = .returned (.tuple #[]) ∧ level_Explicit.MPS W base g v (level_Explicit.emb s odd over) w' := by
 obtain ⟨x, t, h1, h2, h3, h4, h5, h6, h7, h8, h9⟩ := level_Explicit.gd_open hg
 unfold level_Explicit.AtS at h
 rw [h1] at h
 unfold level_Explicit.MPS level_Explicit.AtS level_Explicit.emb
 rw [h2, h1]
 exact level_Explicit.embed_calls h h3 h4 h5 h6 h7 odd over
theorem level_Explicit.isoS {W : World} {base g : Nat} {v : Value} {s : level_Explicit.S} (h : level_Explicit.AtS W base g v s) (hg : level_Explicit.gd s = true) (odd : Int) :
  Calls Try.prog 35 #[.pointer (some ⟨g, 0, none⟩), .int .i64 odd] W fun e w' => e = .returned (.tuple #[]) ∧ level_Explicit.MPS W base g v (level_Explicit.iso s odd) w' := by
 obtain ⟨x, t, h1, h2, h3, h4, h5, h6, h7, h8, h9⟩ := level_Explicit.gd_open hg
 unfold level_Explicit.AtS at h
 rw [h1] at h
 unfold level_Explicit.MPS level_Explicit.AtS level_Explicit.iso
 rw [h2, h1]
 exact level_Explicit.isolate_calls h h3 h4 h5 h6 h7 h8 odd
theorem level_Explicit.pdfS {W : World} {base g : Nat} {v : Value} {s : level_Explicit.S} (h : level_Explicit.AtS W base g v s) (hg : level_Explicit.gd s = true) :
  Calls Try.prog 32 #[.pointer (some ⟨g, 0, none⟩)] W fun e w' => e = .returned (.tuple #[]) ∧ level_Explicit.MPS W base g v (level_Explicit.pdf s) w' := by
 obtain ⟨x, t, h1, h2, h3, h4, h5, h6, h7, h8, h9⟩ := level_Explicit.gd_open hg
 unfold level_Explicit.AtS at h
 rw [h1] at h
 unfold level_Explicit.MPS level_Explicit.AtS level_Explicit.pdf
 rw [h2, h1]
 exact level_Explicit.ends_calls h h3 h6 h7
theorem level_Explicit.pdiS {W : World} {base g : Nat} {v : Value} {s : level_Explicit.S} (h : level_Explicit.AtS W base g v s) (hg : level_Explicit.gd s = true) :
  Calls Try.prog 33 #[.pointer (some ⟨g, 0, none⟩)] W fun e w' => e = .returned (.tuple #[]) ∧ level_Explicit.MPS W base g v (level_Explicit.pdi s) w' := by
 obtain ⟨x, t, h1, h2, h3, h4, h5, h6, h7, h8, h9⟩ := level_Explicit.gd_open hg
 unfold level_Explicit.AtS at h
 unfold level_Explicit.MPS level_Explicit.AtS level_Explicit.pdi
 exact level_Explicit.closes_calls h (by rw [h1] at h ⊢; simp only [List.length_cons]; have := hg; simp only [level_Explicit.gd, h1, Bool.and_eq_true, decide_eq_true_eq, List.length_cons] at this; omega) h6 h8 h9
/-- The rows of a walk: the levels, what is told, and the matches, each in a block of its own. -/
structure level_Explicit.Rows (W : World) (base : Nat) (vl vt vm : Value) (ls ts m : List Int) : Prop where
 l : Kd.R (Kd.int .i64) 3 W base (fun _ => True) vl ls
 t : Kd.R (Kd.int .i64) 3 W base (fun _ => True) vt ts
 m : Kd.R (Kd.int .i64) 3 W base (fun _ => True) vm m
 lt : ∀ k, vl.ownBlock = some k → vt.ownBlock ≠ some k
 lm : ∀ k, vl.ownBlock = some k → vm.ownBlock ≠ some k
 tm : ∀ k, vt.ownBlock = some k → vm.ownBlock ≠ some k
section
variable {W W' : World} {base g : Nat} {v v' vl vt vm : Value} {ls ts m : List Int} {s : level_Explicit.S}
theorem level_Explicit.atS_below (h : level_Explicit.AtS W base g v s) (hb : Below W.heap.size W W') : level_Explicit.AtS W' base g v s := level_Explicit.at_below h hb
theorem level_Explicit.rows_below (h : level_Explicit.Rows W base vl vt vm ls ts m) (hb : Below W.heap.size W W') : level_Explicit.Rows W' base vl vt vm ls ts m := ⟨Kd.R_below h.l hb, Kd.R_below h.t hb, Kd.R_below h.m hb, h.lt, h.lm, h.tm⟩
theorem level_Explicit.row_kp {u : Value} {xs : List Int} (h : Kd.R (Kd.int .i64) 3 W base (fun _ => True) u xs) (ha : level_Explicit.AtS W base g v s) (hk : level_Explicit.Kp W W' base g v v') : Kd.R (Kd.int .i64) 3 W' base (fun _ => True) u xs := by
 refine Kd.R_mono (Kd.R_move (Kd.R_tight rfl (Kd.R_bound h)) (fun k hb => ?_)) (fun _ _ => trivial)
 obtain ⟨cells, hc⟩ := Kd.R_typed h k hb.symm
 refine hk.2.1 k (blk_lt hc) (fun he => ?_) (fun he => ?_)
 ·
  subst he
  rw [ha.1] at hc
  simp at hc
 ·
  obtain ⟨cells', hc'⟩ := Kd.R_typed ha.2.1 k he.symm
  rw [hc] at hc'
  simp at hc'
theorem level_Explicit.rows_kp (h : level_Explicit.Rows W base vl vt vm ls ts m) (ha : level_Explicit.AtS W base g v s) (hk : level_Explicit.Kp W W' base g v v') : level_Explicit.Rows W' base vl vt vm ls ts m := ⟨level_Explicit.row_kp h.l ha hk, level_Explicit.row_kp h.t ha hk, level_Explicit.row_kp h.m ha hk, h.lt, h.lm, h.tm⟩
theorem level_Explicit.at_grown {u : Value} {xs : List Int} (ha : level_Explicit.AtS W base g v s) (h : Kd.R (Kd.int .i64) 3 W base (fun _ => True) u xs) (hg : W.grownBy W' u.ownBlock) : level_Explicit.AtS W' base g v s := by
 refine ⟨blk_grown ha.1 hg (fun he => ?_), Kd.R_over' ha.2.1 (Kd.R_typed h) (by decide) hg, ha.2.2⟩
 obtain ⟨cells, hc⟩ := Kd.R_typed h g he.symm
 rw [ha.1] at hc
 simp at hc
theorem level_Explicit.rows_l {vl1 : Value} {ls1 : List Int} (h : level_Explicit.Rows W base vl vt vm ls ts m) (ho : Kd.R (Kd.int .i64) 3 W' base (fun _ => True) vl1 ls1) (hg : W.grownBy W' vl.ownBlock) (hat : vl1.ownBlock = vl.ownBlock ∨ ∃ b, vl1.ownBlock = some b ∧ W.heap.size ≤ b) : level_Explicit.Rows W' base vl1 vt vm ls1 ts m := by
 refine ⟨ho, Kd.R_grown2 h.t rfl hg (fun k hk he => h.lt k hk he.symm), Kd.R_grown2 h.m rfl hg (fun k hk he => h.lm k hk he.symm), fun k hk => ?_, fun k hk => ?_, h.tm⟩
 ·
  rcases hat with e | ⟨b, e, hb⟩
  ·
   exact h.lt k (e ▸ hk)
  ·
   intro he
   rw [e] at hk
   have := Kd.R_lt h.t k he
   simp only [Option.some.injEq] at hk
   omega
 ·
  rcases hat with e | ⟨b, e, hb⟩
  ·
   exact h.lm k (e ▸ hk)
  ·
   intro he
   rw [e] at hk
   have := Kd.R_lt h.m k he
   simp only [Option.some.injEq] at hk
   omega
theorem level_Explicit.rows_t {vt1 : Value} {ts1 : List Int} (h : level_Explicit.Rows W base vl vt vm ls ts m) (ho : Kd.R (Kd.int .i64) 3 W' base (fun _ => True) vt1 ts1) (hg : W.grownBy W' vt.ownBlock) (hat : vt1.ownBlock = vt.ownBlock ∨ ∃ b, vt1.ownBlock = some b ∧ W.heap.size ≤ b) : level_Explicit.Rows W' base vl vt1 vm ls ts1 m := by
 refine ⟨Kd.R_grown2 h.l rfl hg (fun k hk he => h.lt k he.symm hk), ho, Kd.R_grown2 h.m rfl hg (fun k hk he => h.tm k hk he.symm), fun k hk => ?_, h.lm, fun k hk => ?_⟩
 ·
  rcases hat with e | ⟨b, e, hb⟩
  ·
   rw [e]; exact h.lt k hk
  ·
   rw [e]
   intro he
   have := Kd.R_lt h.l k hk
   simp only [Option.some.injEq] at he
   omega
 ·
  rcases hat with e | ⟨b, e, hb⟩
  ·
   exact h.tm k (e ▸ hk)
  ·
   intro he
   rw [e] at hk
   have := Kd.R_lt h.m k he
   simp only [Option.some.injEq] at hk
   omega
end
theorem level_Explicit.drawn_below {W W' : World} (h : Drawn0 W W') : Below W.heap.size W W' := by
 obtain ⟨n, rfl⟩ := h
 exact pw_below_drewN (Below.refl _ _) _
theorem level_Explicit.at_new (w : World) (a1 : Int) : level_Explicit.AtS ((w.alloc (.cells #[.int .i64 a1, .int .i64 (-1), .bool false] 54)).alloc (.cells #[.int .i64 0, .int .i64 0, .slice (some ⟨w.heap.size, 0, none⟩) 1 1, .int .i64 0] 59)) w.heap.size (w.heap.size + 1) (.slice (some ⟨w.heap.size, 0, none⟩) 1 1) ⟨0, 0, 0, [⟨a1, -1, false⟩]⟩ := by
 refine ⟨?_, Kd.R_alloc ⟨fun k hk => ?_, [.int .i64 a1, .int .i64 (-1), .bool false], ?_, ?_⟩ _, Nat.le_succ _⟩
 ·
  have := blk_new (w.alloc (.cells #[.int .i64 a1, .int .i64 (-1), .bool false] 54)) (.cells #[.int .i64 0, .int .i64 0, .slice (some ⟨w.heap.size, 0, none⟩) 1 1, .int .i64 0] 59)
  rw [show (w.alloc (.cells #[.int .i64 a1, .int .i64 (-1), .bool false] 54)).heap.size = w.heap.size + 1 from Array.size_push _] at this
  exact this
 ·
  have : w.heap.size = k := by simpa [Value.ownBlock] using hk
  omega
 ·
  have h2 := World.ownsRow_lit (base := w.heap.size) (e := 54) (size := 3) w #[.int .i64 a1, .int .i64 (-1), .bool false] 1 (Nat.le_refl _) (by decide) rfl
  exact h2
 ·
  exact Reps.c3 (show Kd.M k54 _ _ _ (⟨a1, -1, false⟩ : level_Explicit.E) [.int .i64 a1, .int .i64 (-1), .bool false] from k54_mkM _ _ _ _) (Reps.none _ _)
attribute [local go_sem] level_Explicit.fld0 level_Explicit.fld1 level_Explicit.fld2
set_option maxHeartbeats 8000000 in
set_option maxRecDepth 100000 in
theorem level_Explicit.calls (k : Nat) (A0 : Option Addr) (c0 : Nat) (l0 : List Int) (a1 : Int) (r1 r2 : List Int) (w : World) (hr0 : Kd.C (Kd.int .i64) w A0 l0.length l0) (hc0 : l0.length ≤ c0) (h : level_Explicit.f k l0 a1 = some (r1, r2)) :
  Calls Try.prog 12 #[.slice A0 l0.length c0, .int .i64 a1] w fun e w' => ∃ v1_ v2_ : Value, e = .returned (.tuple #[v1_, v2_]) ∧ Kd.R (Kd.int .i64) 3 w' w.heap.size (fun k_ => some k_ ≠ (v2_ : Value).ownBlock) v1_ r1 ∧ Kd.R (Kd.int .i64) 3 w' w.heap.size (fun k_ => some k_ ≠ (v1_ : Value).ownBlock) v2_ r2 ∧ Below w.heap.size w w' := by
 have HR0 := Aside0.mk hr0
 have HC0 := Aside0.mk hc0
 clear hr0 hc0
 unfold level_Explicit.f at h
 by_cases hw : a1 = 0 ∨ a1 = 1
 ·
  rw [if_pos hw] at h
  obtain ⟨m, hm, hl⟩ := Option.bind_eq_some_iff.1 h
  have HM := Aside0.mk hm
  have HA1 := Aside0.mk hl
  clear hm hl h
  have hw1 : (a1 == 0) = true ∨ ((a1 == 0) = false ∧ (a1 == 1) = true) := by
   rcases hw with rfl | rfl
   ·
    exact .inl rfl
   ·
    exact .inr ⟨rfl, rfl⟩
  have HB := Aside0.mk (Below.refl w.heap.size w)
  go_enter Try.func12, Try.ntmps12
  rcases hw with rfl | rfl
  ·
   go_wp2_with (go_at_call 15; refine (base_Match.calls k _ _ _ m _ (Kd.C_alloc (Kd.C_alloc HR0.out _) _) HC0.out HM.out).mono ?_; rintro e w1 ⟨vm, rfl, hO, hb1⟩; have HA := Aside0.mk (level_Explicit.atS_below (level_Explicit.at_new w 0) hb1); have HR := Aside0.mk (show level_Explicit.Rows w1 w.heap.size (.slice none 0 0) (.slice none 0 0) vm [] [] m from ⟨Kd.R_nil _ _ _ _ _, Kd.R_nil _ _ _ _ _, Kd.R_lower hO (by rw [World.size_alloc, World.size_alloc]; omega), fun k hk => by simp [Value.ownBlock] at hk, fun k hk => by simp [Value.ownBlock] at hk, fun k hk => by simp [Value.ownBlock] at hk⟩); have n0_ := Aside0.mk (below_step (below_alloc (below_alloc HB.out _) _) hb1); clear HB hb1 hO; have HB := n0_; clear n0_)
   generalize Value.slice (some ⟨w.heap.size, 0, none⟩) 1 1 = v0 at *
   go_loopg [4, 5, 29] k (fun kx s4 s5 s29 wr => ∃ (vl vt v : Value) (s : level_Explicit.S) (ls ts : List Int), s4 = vl ∧ s5 = vt ∧ s29 = .int .i64 (ls.length : Int) ∧ Aside0 (level_Explicit.lp k kx l0 m 0 s ls ts = some (r1, r2)) ∧ Aside0 (ts.length = ls.length) ∧ Aside0 (level_Explicit.AtS wr w.heap.size (w.heap.size + 1) v s) ∧ Aside0 (level_Explicit.Rows wr w.heap.size vl vt vm ls ts m) ∧ Aside0 (Below w.heap.size w wr))
   case atStart => exact ⟨_, _, _, _, [], [], rfl, rfl, rfl, HA1, ⟨rfl⟩, HA, HR, HB⟩
   case round =>
    clear HA1 HA HR HB
    obtain ⟨vl, vt, v, s, ls, ts, rfl, rfl, rfl, HL, HE, HA, HR, HB⟩ := hrel
    cases gk with
    | zero => exact absurd HL.out (by simp [level_Explicit.lp])
    | succ k1 =>
     have H := HL.out
     clear HL
     rw [level_Explicit.lp] at H
     by_cases c1 : ls.length < l0.length
     ·
      rw [if_pos c1] at H
      by_cases c2 : ls.length < 1000000 ∧ level_Explicit.gd s = true ∧ level_Explicit.gd (level_Explicit.s1 s (rd l0 (ls.length : Int))) = true
      ·
       rw [if_pos c2] at H
       obtain ⟨c2n, c2g, c2h⟩ := c2
       have HN := Aside0.mk c2n
       have HG := Aside0.mk c2g
       have c1i : (ls.length : Int) < (l0.length : Int) := by omega
       have c0i : (0 : Int) ≤ (ls.length : Int) := by omega
       have hw : IntKind.i64.wrap ((ls.length : Int) + 1) = (ls.length : Int) + 1 := by rw [IntKind.wrap_i64]; omega
       have hw2 : (ls.length : Int) + 1 = ((ls.length + 1 : Nat) : Int) := by omega
       have HW2 := Aside0.mk hw2
       have HCI := Aside0.mk c1
       obtain ⟨ad, e1, hx⟩ := Kd.at_int HR0.out (ls.length : Int) c0i c1i
       cases e1
       replace hx := (HB.out.cell (World.block_lt_of_cell? w _ hx)).trans hx
       have c1b : decide ((ls.length : Int) < (l0.length : Int)) = true := decide_eq_true c1i
       simp only [Int.toNat_natCast] at hx
       have c1b2 : decide (ls.length < l0.length) = true := decide_eq_true c1
       have q1 := eq_true c0i
       have q2 := eq_true c1i
       obtain ⟨s', hs', H⟩ := Option.bind_eq_some_iff.1 H
       obtain ⟨rm, hrm, H⟩ := Option.bind_eq_some_iff.1 H
       clear c1 c2n c2g c0i c1i hw2
       generalize rd l0 (ls.length : Int) = c at *
       by_cases d10 : c = 10
       ·
        subst d10
        obtain rfl : s = s' := Option.some.inj hs'
        obtain rfl : false = rm := Option.some.inj hrm
        have HM := Aside0.mk hrm
        have HH := Aside0.mk (show level_Explicit.lp k k1 l0 m 0 (s) (ls ++ [0]) (ts ++ [10]) = some (r1, r2) from H)
        have HG1 := Aside0.mk c2h
        clear H hs' hrm c2h
        go_wp2_with (first | (go_at_call 30; refine (level_Explicit.lastS HA.out HG.out).mono ?_; rintro e w2 ⟨rfl, hb2⟩; have n0_ := Aside0.mk (level_Explicit.rows_below HR.out hb2); have n1_ := Aside0.mk (below_step HB.out hb2); have n2_ := Aside0.mk (level_Explicit.atS_below HA.out hb2); clear HA HR HB hb2; have HA := n2_; have HR := n0_; have HB := n1_; clear n0_ n1_ n2_) | (go_at_call 14; (with_reducible refine (level_Removed.calls _ _ _ HM.out).mono ?_); rintro e w2 ⟨rfl, hd2⟩; have hb2 := level_Explicit.drawn_below hd2; have n0_ := Aside0.mk (level_Explicit.rows_below HR.out hb2); have n1_ := Aside0.mk (below_step HB.out hb2); have n2_ := Aside0.mk (level_Explicit.atS_below HA.out hb2); clear HA HR HB hb2 hd2; have HA := n2_; have HR := n0_; have HB := n1_; clear n0_ n1_ n2_) | ((with_reducible refine gate_builtin (b := .append) (xs := #[.tmp 105, .tmp 107]) rfl ?_); at_builtin; refine Kd.R_append (Kd.int .i64) (w0 := w) w.heap.size rfl (.tmp 105) (.tmp 107) 22 3 (.int .i64 0) 8 rfl Try.underlying22 info3 rfl (by decide) (by omega) u4 ls (0) [.int .i64 (0)] (fun _ => True) (fun _ => False) rfl rfl ?aP (fun _ hk => hk.elim) (fun _ _ => trivial) ?aO ?aB ?aS ?aL ?_; (case aP => exact rfl); (case aO => exact HR.out.l); (case aB => exact HB.out); (case aS => exact HB.out.size); (case aL => have := HN.out; have := HE.out; omega); intro v9 w9 ho hb hgr hat; have n0_ := Aside0.mk (level_Explicit.rows_l HR.out ho hgr hat); have n1_ := Aside0.mk (level_Explicit.at_grown HA.out HR.out.l hgr); clear HA HR HB; have HA := n1_; have HR := n0_; have HB := Aside0.mk hb; clear n0_ n1_ ho hb hgr hat) | ((with_reducible refine gate_builtin (b := .append) (xs := #[.tmp 109, .tmp 111]) rfl ?_); at_builtin; refine Kd.R_append (Kd.int .i64) (w0 := w) w.heap.size rfl (.tmp 109) (.tmp 111) 22 3 (.int .i64 0) 8 rfl Try.underlying22 info3 rfl (by decide) (by omega) u5 ts (10) [.int .i64 (10)] (fun _ => True) (fun _ => False) rfl rfl ?aP (fun _ hk => hk.elim) (fun _ _ => trivial) ?aO ?aB ?aS ?aL ?_; (case aP => exact rfl); (case aO => exact HR.out.t); (case aB => exact HB.out); (case aS => exact HB.out.size); (case aL => have := HN.out; have := HE.out; omega); intro v9 w9 ho hb hgr hat; have n0_ := Aside0.mk (level_Explicit.rows_t HR.out ho hgr hat); have n1_ := Aside0.mk (level_Explicit.at_grown HA.out HR.out.t hgr); clear HA HR HB; have HA := n1_; have HR := n0_; have HB := Aside0.mk hb; clear n0_ n1_ ho hb hgr hat))
        go_roundg k1
        case measure => exact Nat.lt_succ_self _
        case rel => exact ⟨_, _, _, s, ls ++ [0], ts ++ [10], rfl, rfl, (by rw [HW2.out, List.length_append]; rfl), HH, ⟨by rw [List.length_append, List.length_append, HE.out]; rfl⟩, HA, HR, HB⟩
       ·
        have d10b : (c == 10) = false := beq_eq_false_iff_ne.2 d10
        by_cases d16 : c = 16
        ·
         subst d16
         obtain rfl : level_Explicit.emb s 1 (-1) = s' := Option.some.inj hs'
         obtain rfl : true = rm := Option.some.inj hrm
         have HM := Aside0.mk hrm
         have HH := Aside0.mk (show level_Explicit.lp k k1 l0 m 0 (level_Explicit.emb s 1 (-1)) (ls ++ [-1]) (ts ++ [16]) = some (r1, r2) from H)
         have HG1 := Aside0.mk c2h
         clear H hs' hrm c2h
         go_wp2_with (first | (go_at_call 30; refine (level_Explicit.lastS HA.out HG.out).mono ?_; rintro e w2 ⟨rfl, hb2⟩; have n0_ := Aside0.mk (level_Explicit.rows_below HR.out hb2); have n1_ := Aside0.mk (below_step HB.out hb2); have n2_ := Aside0.mk (level_Explicit.atS_below HA.out hb2); clear HA HR HB hb2; have HA := n2_; have HR := n0_; have HB := n1_; clear n0_ n1_ n2_) | (go_at_call 31; refine (level_Explicit.embS HA.out HG.out 1 (-1)).mono ?_; rintro e w2 ⟨rfl, v2, ha2, hk2⟩; have n0_ := Aside0.mk (level_Explicit.rows_kp HR.out HA.out hk2); have n1_ := Aside0.mk (HB.out.trans hk2.1); clear HA HR HB; have HA := Aside0.mk ha2; have HR := n0_; have HB := n1_; clear n0_ n1_ ha2 hk2) | (go_at_call 14; (with_reducible refine (level_Removed.calls _ _ _ HM.out).mono ?_); rintro e w2 ⟨rfl, hd2⟩; have hb2 := level_Explicit.drawn_below hd2; have n0_ := Aside0.mk (level_Explicit.rows_below HR.out hb2); have n1_ := Aside0.mk (below_step HB.out hb2); have n2_ := Aside0.mk (level_Explicit.atS_below HA.out hb2); clear HA HR HB hb2 hd2; have HA := n2_; have HR := n0_; have HB := n1_; clear n0_ n1_ n2_) | ((with_reducible refine gate_builtin (b := .append) (xs := #[.tmp 105, .tmp 107]) rfl ?_); at_builtin; refine Kd.R_append (Kd.int .i64) (w0 := w) w.heap.size rfl (.tmp 105) (.tmp 107) 22 3 (.int .i64 0) 8 rfl Try.underlying22 info3 rfl (by decide) (by omega) u4 ls (-1) [.int .i64 (-1)] (fun _ => True) (fun _ => False) rfl rfl ?aP (fun _ hk => hk.elim) (fun _ _ => trivial) ?aO ?aB ?aS ?aL ?_; (case aP => exact rfl); (case aO => exact HR.out.l); (case aB => exact HB.out); (case aS => exact HB.out.size); (case aL => have := HN.out; have := HE.out; omega); intro v9 w9 ho hb hgr hat; have n0_ := Aside0.mk (level_Explicit.rows_l HR.out ho hgr hat); have n1_ := Aside0.mk (level_Explicit.at_grown HA.out HR.out.l hgr); clear HA HR HB; have HA := n1_; have HR := n0_; have HB := Aside0.mk hb; clear n0_ n1_ ho hb hgr hat) | ((with_reducible refine gate_builtin (b := .append) (xs := #[.tmp 109, .tmp 111]) rfl ?_); at_builtin; refine Kd.R_append (Kd.int .i64) (w0 := w) w.heap.size rfl (.tmp 109) (.tmp 111) 22 3 (.int .i64 0) 8 rfl Try.underlying22 info3 rfl (by decide) (by omega) u5 ts (16) [.int .i64 (16)] (fun _ => True) (fun _ => False) rfl rfl ?aP (fun _ hk => hk.elim) (fun _ _ => trivial) ?aO ?aB ?aS ?aL ?_; (case aP => exact rfl); (case aO => exact HR.out.t); (case aB => exact HB.out); (case aS => exact HB.out.size); (case aL => have := HN.out; have := HE.out; omega); intro v9 w9 ho hb hgr hat; have n0_ := Aside0.mk (level_Explicit.rows_t HR.out ho hgr hat); have n1_ := Aside0.mk (level_Explicit.at_grown HA.out HR.out.t hgr); clear HA HR HB; have HA := n1_; have HR := n0_; have HB := Aside0.mk hb; clear n0_ n1_ ho hb hgr hat))
         go_roundg k1
         case measure => exact Nat.lt_succ_self _
         case rel => exact ⟨_, _, _, level_Explicit.emb s 1 (-1), ls ++ [-1], ts ++ [16], rfl, rfl, (by rw [HW2.out, List.length_append]; rfl), HH, ⟨by rw [List.length_append, List.length_append, HE.out]; rfl⟩, HA, HR, HB⟩
        ·
         have d16b : (c == 16) = false := beq_eq_false_iff_ne.2 d16
         by_cases d14 : c = 14
         ·
          subst d14
          obtain rfl : level_Explicit.emb s 0 (-1) = s' := Option.some.inj hs'
          obtain rfl : true = rm := Option.some.inj hrm
          have HM := Aside0.mk hrm
          have HH := Aside0.mk (show level_Explicit.lp k k1 l0 m 0 (level_Explicit.emb s 0 (-1)) (ls ++ [-1]) (ts ++ [14]) = some (r1, r2) from H)
          have HG1 := Aside0.mk c2h
          clear H hs' hrm c2h
          go_wp2_with (first | (go_at_call 30; refine (level_Explicit.lastS HA.out HG.out).mono ?_; rintro e w2 ⟨rfl, hb2⟩; have n0_ := Aside0.mk (level_Explicit.rows_below HR.out hb2); have n1_ := Aside0.mk (below_step HB.out hb2); have n2_ := Aside0.mk (level_Explicit.atS_below HA.out hb2); clear HA HR HB hb2; have HA := n2_; have HR := n0_; have HB := n1_; clear n0_ n1_ n2_) | (go_at_call 31; refine (level_Explicit.embS HA.out HG.out 0 (-1)).mono ?_; rintro e w2 ⟨rfl, v2, ha2, hk2⟩; have n0_ := Aside0.mk (level_Explicit.rows_kp HR.out HA.out hk2); have n1_ := Aside0.mk (HB.out.trans hk2.1); clear HA HR HB; have HA := Aside0.mk ha2; have HR := n0_; have HB := n1_; clear n0_ n1_ ha2 hk2) | (go_at_call 14; (with_reducible refine (level_Removed.calls _ _ _ HM.out).mono ?_); rintro e w2 ⟨rfl, hd2⟩; have hb2 := level_Explicit.drawn_below hd2; have n0_ := Aside0.mk (level_Explicit.rows_below HR.out hb2); have n1_ := Aside0.mk (below_step HB.out hb2); have n2_ := Aside0.mk (level_Explicit.atS_below HA.out hb2); clear HA HR HB hb2 hd2; have HA := n2_; have HR := n0_; have HB := n1_; clear n0_ n1_ n2_) | ((with_reducible refine gate_builtin (b := .append) (xs := #[.tmp 105, .tmp 107]) rfl ?_); at_builtin; refine Kd.R_append (Kd.int .i64) (w0 := w) w.heap.size rfl (.tmp 105) (.tmp 107) 22 3 (.int .i64 0) 8 rfl Try.underlying22 info3 rfl (by decide) (by omega) u4 ls (-1) [.int .i64 (-1)] (fun _ => True) (fun _ => False) rfl rfl ?aP (fun _ hk => hk.elim) (fun _ _ => trivial) ?aO ?aB ?aS ?aL ?_; (case aP => exact rfl); (case aO => exact HR.out.l); (case aB => exact HB.out); (case aS => exact HB.out.size); (case aL => have := HN.out; have := HE.out; omega); intro v9 w9 ho hb hgr hat; have n0_ := Aside0.mk (level_Explicit.rows_l HR.out ho hgr hat); have n1_ := Aside0.mk (level_Explicit.at_grown HA.out HR.out.l hgr); clear HA HR HB; have HA := n1_; have HR := n0_; have HB := Aside0.mk hb; clear n0_ n1_ ho hb hgr hat) | ((with_reducible refine gate_builtin (b := .append) (xs := #[.tmp 109, .tmp 111]) rfl ?_); at_builtin; refine Kd.R_append (Kd.int .i64) (w0 := w) w.heap.size rfl (.tmp 109) (.tmp 111) 22 3 (.int .i64 0) 8 rfl Try.underlying22 info3 rfl (by decide) (by omega) u5 ts (14) [.int .i64 (14)] (fun _ => True) (fun _ => False) rfl rfl ?aP (fun _ hk => hk.elim) (fun _ _ => trivial) ?aO ?aB ?aS ?aL ?_; (case aP => exact rfl); (case aO => exact HR.out.t); (case aB => exact HB.out); (case aS => exact HB.out.size); (case aL => have := HN.out; have := HE.out; omega); intro v9 w9 ho hb hgr hat; have n0_ := Aside0.mk (level_Explicit.rows_t HR.out ho hgr hat); have n1_ := Aside0.mk (level_Explicit.at_grown HA.out HR.out.t hgr); clear HA HR HB; have HA := n1_; have HR := n0_; have HB := Aside0.mk hb; clear n0_ n1_ ho hb hgr hat))
          go_roundg k1
          case measure => exact Nat.lt_succ_self _
          case rel => exact ⟨_, _, _, level_Explicit.emb s 0 (-1), ls ++ [-1], ts ++ [14], rfl, rfl, (by rw [HW2.out, List.length_append]; rfl), HH, ⟨by rw [List.length_append, List.length_append, HE.out]; rfl⟩, HA, HR, HB⟩
         ·
          have d14b : (c == 14) = false := beq_eq_false_iff_ne.2 d14
          by_cases d17 : c = 17
          ·
           subst d17
           obtain rfl : level_Explicit.emb s 1 1 = s' := Option.some.inj hs'
           obtain rfl : true = rm := Option.some.inj hrm
           have HM := Aside0.mk hrm
           have HH := Aside0.mk (show level_Explicit.lp k k1 l0 m 0 (level_Explicit.emb s 1 1) (ls ++ [-1]) (ts ++ [17]) = some (r1, r2) from H)
           have HG1 := Aside0.mk c2h
           clear H hs' hrm c2h
           go_wp2_with (first | (go_at_call 30; refine (level_Explicit.lastS HA.out HG.out).mono ?_; rintro e w2 ⟨rfl, hb2⟩; have n0_ := Aside0.mk (level_Explicit.rows_below HR.out hb2); have n1_ := Aside0.mk (below_step HB.out hb2); have n2_ := Aside0.mk (level_Explicit.atS_below HA.out hb2); clear HA HR HB hb2; have HA := n2_; have HR := n0_; have HB := n1_; clear n0_ n1_ n2_) | (go_at_call 31; refine (level_Explicit.embS HA.out HG.out 1 1).mono ?_; rintro e w2 ⟨rfl, v2, ha2, hk2⟩; have n0_ := Aside0.mk (level_Explicit.rows_kp HR.out HA.out hk2); have n1_ := Aside0.mk (HB.out.trans hk2.1); clear HA HR HB; have HA := Aside0.mk ha2; have HR := n0_; have HB := n1_; clear n0_ n1_ ha2 hk2) | (go_at_call 14; (with_reducible refine (level_Removed.calls _ _ _ HM.out).mono ?_); rintro e w2 ⟨rfl, hd2⟩; have hb2 := level_Explicit.drawn_below hd2; have n0_ := Aside0.mk (level_Explicit.rows_below HR.out hb2); have n1_ := Aside0.mk (below_step HB.out hb2); have n2_ := Aside0.mk (level_Explicit.atS_below HA.out hb2); clear HA HR HB hb2 hd2; have HA := n2_; have HR := n0_; have HB := n1_; clear n0_ n1_ n2_) | ((with_reducible refine gate_builtin (b := .append) (xs := #[.tmp 105, .tmp 107]) rfl ?_); at_builtin; refine Kd.R_append (Kd.int .i64) (w0 := w) w.heap.size rfl (.tmp 105) (.tmp 107) 22 3 (.int .i64 0) 8 rfl Try.underlying22 info3 rfl (by decide) (by omega) u4 ls (-1) [.int .i64 (-1)] (fun _ => True) (fun _ => False) rfl rfl ?aP (fun _ hk => hk.elim) (fun _ _ => trivial) ?aO ?aB ?aS ?aL ?_; (case aP => exact rfl); (case aO => exact HR.out.l); (case aB => exact HB.out); (case aS => exact HB.out.size); (case aL => have := HN.out; have := HE.out; omega); intro v9 w9 ho hb hgr hat; have n0_ := Aside0.mk (level_Explicit.rows_l HR.out ho hgr hat); have n1_ := Aside0.mk (level_Explicit.at_grown HA.out HR.out.l hgr); clear HA HR HB; have HA := n1_; have HR := n0_; have HB := Aside0.mk hb; clear n0_ n1_ ho hb hgr hat) | ((with_reducible refine gate_builtin (b := .append) (xs := #[.tmp 109, .tmp 111]) rfl ?_); at_builtin; refine Kd.R_append (Kd.int .i64) (w0 := w) w.heap.size rfl (.tmp 109) (.tmp 111) 22 3 (.int .i64 0) 8 rfl Try.underlying22 info3 rfl (by decide) (by omega) u5 ts (17) [.int .i64 (17)] (fun _ => True) (fun _ => False) rfl rfl ?aP (fun _ hk => hk.elim) (fun _ _ => trivial) ?aO ?aB ?aS ?aL ?_; (case aP => exact rfl); (case aO => exact HR.out.t); (case aB => exact HB.out); (case aS => exact HB.out.size); (case aL => have := HN.out; have := HE.out; omega); intro v9 w9 ho hb hgr hat; have n0_ := Aside0.mk (level_Explicit.rows_t HR.out ho hgr hat); have n1_ := Aside0.mk (level_Explicit.at_grown HA.out HR.out.t hgr); clear HA HR HB; have HA := n1_; have HR := n0_; have HB := Aside0.mk hb; clear n0_ n1_ ho hb hgr hat))
           go_roundg k1
           case measure => exact Nat.lt_succ_self _
           case rel => exact ⟨_, _, _, level_Explicit.emb s 1 1, ls ++ [-1], ts ++ [17], rfl, rfl, (by rw [HW2.out, List.length_append]; rfl), HH, ⟨by rw [List.length_append, List.length_append, HE.out]; rfl⟩, HA, HR, HB⟩
          ·
           have d17b : (c == 17) = false := beq_eq_false_iff_ne.2 d17
           by_cases d15 : c = 15
           ·
            subst d15
            obtain rfl : level_Explicit.emb s 0 0 = s' := Option.some.inj hs'
            obtain rfl : true = rm := Option.some.inj hrm
            have HM := Aside0.mk hrm
            have HH := Aside0.mk (show level_Explicit.lp k k1 l0 m 0 (level_Explicit.emb s 0 0) (ls ++ [-1]) (ts ++ [15]) = some (r1, r2) from H)
            have HG1 := Aside0.mk c2h
            clear H hs' hrm c2h
            go_wp2_with (first | (go_at_call 30; refine (level_Explicit.lastS HA.out HG.out).mono ?_; rintro e w2 ⟨rfl, hb2⟩; have n0_ := Aside0.mk (level_Explicit.rows_below HR.out hb2); have n1_ := Aside0.mk (below_step HB.out hb2); have n2_ := Aside0.mk (level_Explicit.atS_below HA.out hb2); clear HA HR HB hb2; have HA := n2_; have HR := n0_; have HB := n1_; clear n0_ n1_ n2_) | (go_at_call 31; refine (level_Explicit.embS HA.out HG.out 0 0).mono ?_; rintro e w2 ⟨rfl, v2, ha2, hk2⟩; have n0_ := Aside0.mk (level_Explicit.rows_kp HR.out HA.out hk2); have n1_ := Aside0.mk (HB.out.trans hk2.1); clear HA HR HB; have HA := Aside0.mk ha2; have HR := n0_; have HB := n1_; clear n0_ n1_ ha2 hk2) | (go_at_call 14; (with_reducible refine (level_Removed.calls _ _ _ HM.out).mono ?_); rintro e w2 ⟨rfl, hd2⟩; have hb2 := level_Explicit.drawn_below hd2; have n0_ := Aside0.mk (level_Explicit.rows_below HR.out hb2); have n1_ := Aside0.mk (below_step HB.out hb2); have n2_ := Aside0.mk (level_Explicit.atS_below HA.out hb2); clear HA HR HB hb2 hd2; have HA := n2_; have HR := n0_; have HB := n1_; clear n0_ n1_ n2_) | ((with_reducible refine gate_builtin (b := .append) (xs := #[.tmp 105, .tmp 107]) rfl ?_); at_builtin; refine Kd.R_append (Kd.int .i64) (w0 := w) w.heap.size rfl (.tmp 105) (.tmp 107) 22 3 (.int .i64 0) 8 rfl Try.underlying22 info3 rfl (by decide) (by omega) u4 ls (-1) [.int .i64 (-1)] (fun _ => True) (fun _ => False) rfl rfl ?aP (fun _ hk => hk.elim) (fun _ _ => trivial) ?aO ?aB ?aS ?aL ?_; (case aP => exact rfl); (case aO => exact HR.out.l); (case aB => exact HB.out); (case aS => exact HB.out.size); (case aL => have := HN.out; have := HE.out; omega); intro v9 w9 ho hb hgr hat; have n0_ := Aside0.mk (level_Explicit.rows_l HR.out ho hgr hat); have n1_ := Aside0.mk (level_Explicit.at_grown HA.out HR.out.l hgr); clear HA HR HB; have HA := n1_; have HR := n0_; have HB := Aside0.mk hb; clear n0_ n1_ ho hb hgr hat) | ((with_reducible refine gate_builtin (b := .append) (xs := #[.tmp 109, .tmp 111]) rfl ?_); at_builtin; refine Kd.R_append (Kd.int .i64) (w0 := w) w.heap.size rfl (.tmp 109) (.tmp 111) 22 3 (.int .i64 0) 8 rfl Try.underlying22 info3 rfl (by decide) (by omega) u5 ts (15) [.int .i64 (15)] (fun _ => True) (fun _ => False) rfl rfl ?aP (fun _ hk => hk.elim) (fun _ _ => trivial) ?aO ?aB ?aS ?aL ?_; (case aP => exact rfl); (case aO => exact HR.out.t); (case aB => exact HB.out); (case aS => exact HB.out.size); (case aL => have := HN.out; have := HE.out; omega); intro v9 w9 ho hb hgr hat; have n0_ := Aside0.mk (level_Explicit.rows_t HR.out ho hgr hat); have n1_ := Aside0.mk (level_Explicit.at_grown HA.out HR.out.t hgr); clear HA HR HB; have HA := n1_; have HR := n0_; have HB := Aside0.mk hb; clear n0_ n1_ ho hb hgr hat))
            go_roundg k1
            case measure => exact Nat.lt_succ_self _
            case rel => exact ⟨_, _, _, level_Explicit.emb s 0 0, ls ++ [-1], ts ++ [15], rfl, rfl, (by rw [HW2.out, List.length_append]; rfl), HH, ⟨by rw [List.length_append, List.length_append, HE.out]; rfl⟩, HA, HR, HB⟩
           ·
            have d15b : (c == 15) = false := beq_eq_false_iff_ne.2 d15
            by_cases d18 : c = 18
            ·
             subst d18
             obtain rfl : level_Explicit.pdf s = s' := Option.some.inj hs'
             obtain rfl : true = rm := Option.some.inj hrm
             have HM := Aside0.mk hrm
             have HH := Aside0.mk (show level_Explicit.lp k k1 l0 m 0 (level_Explicit.pdf s) (ls ++ [-1]) (ts ++ [18]) = some (r1, r2) from H)
             have HG1 := Aside0.mk c2h
             clear H hs' hrm c2h
             go_wp2_with (first | (go_at_call 30; refine (level_Explicit.lastS HA.out HG.out).mono ?_; rintro e w2 ⟨rfl, hb2⟩; have n0_ := Aside0.mk (level_Explicit.rows_below HR.out hb2); have n1_ := Aside0.mk (below_step HB.out hb2); have n2_ := Aside0.mk (level_Explicit.atS_below HA.out hb2); clear HA HR HB hb2; have HA := n2_; have HR := n0_; have HB := n1_; clear n0_ n1_ n2_) | (go_at_call 32; refine (level_Explicit.pdfS HA.out HG.out).mono ?_; rintro e w2 ⟨rfl, v2, ha2, hk2⟩; have n0_ := Aside0.mk (level_Explicit.rows_kp HR.out HA.out hk2); have n1_ := Aside0.mk (HB.out.trans hk2.1); clear HA HR HB; have HA := Aside0.mk ha2; have HR := n0_; have HB := n1_; clear n0_ n1_ ha2 hk2) | (go_at_call 14; (with_reducible refine (level_Removed.calls _ _ _ HM.out).mono ?_); rintro e w2 ⟨rfl, hd2⟩; have hb2 := level_Explicit.drawn_below hd2; have n0_ := Aside0.mk (level_Explicit.rows_below HR.out hb2); have n1_ := Aside0.mk (below_step HB.out hb2); have n2_ := Aside0.mk (level_Explicit.atS_below HA.out hb2); clear HA HR HB hb2 hd2; have HA := n2_; have HR := n0_; have HB := n1_; clear n0_ n1_ n2_) | ((with_reducible refine gate_builtin (b := .append) (xs := #[.tmp 105, .tmp 107]) rfl ?_); at_builtin; refine Kd.R_append (Kd.int .i64) (w0 := w) w.heap.size rfl (.tmp 105) (.tmp 107) 22 3 (.int .i64 0) 8 rfl Try.underlying22 info3 rfl (by decide) (by omega) u4 ls (-1) [.int .i64 (-1)] (fun _ => True) (fun _ => False) rfl rfl ?aP (fun _ hk => hk.elim) (fun _ _ => trivial) ?aO ?aB ?aS ?aL ?_; (case aP => exact rfl); (case aO => exact HR.out.l); (case aB => exact HB.out); (case aS => exact HB.out.size); (case aL => have := HN.out; have := HE.out; omega); intro v9 w9 ho hb hgr hat; have n0_ := Aside0.mk (level_Explicit.rows_l HR.out ho hgr hat); have n1_ := Aside0.mk (level_Explicit.at_grown HA.out HR.out.l hgr); clear HA HR HB; have HA := n1_; have HR := n0_; have HB := Aside0.mk hb; clear n0_ n1_ ho hb hgr hat) | ((with_reducible refine gate_builtin (b := .append) (xs := #[.tmp 109, .tmp 111]) rfl ?_); at_builtin; refine Kd.R_append (Kd.int .i64) (w0 := w) w.heap.size rfl (.tmp 109) (.tmp 111) 22 3 (.int .i64 0) 8 rfl Try.underlying22 info3 rfl (by decide) (by omega) u5 ts (18) [.int .i64 (18)] (fun _ => True) (fun _ => False) rfl rfl ?aP (fun _ hk => hk.elim) (fun _ _ => trivial) ?aO ?aB ?aS ?aL ?_; (case aP => exact rfl); (case aO => exact HR.out.t); (case aB => exact HB.out); (case aS => exact HB.out.size); (case aL => have := HN.out; have := HE.out; omega); intro v9 w9 ho hb hgr hat; have n0_ := Aside0.mk (level_Explicit.rows_t HR.out ho hgr hat); have n1_ := Aside0.mk (level_Explicit.at_grown HA.out HR.out.t hgr); clear HA HR HB; have HA := n1_; have HR := n0_; have HB := Aside0.mk hb; clear n0_ n1_ ho hb hgr hat))
             go_roundg k1
             case measure => exact Nat.lt_succ_self _
             case rel => exact ⟨_, _, _, level_Explicit.pdf s, ls ++ [-1], ts ++ [18], rfl, rfl, (by rw [HW2.out, List.length_append]; rfl), HH, ⟨by rw [List.length_append, List.length_append, HE.out]; rfl⟩, HA, HR, HB⟩
            ·
             have d18b : (c == 18) = false := beq_eq_false_iff_ne.2 d18
             by_cases d22 : c = 22
             ·
              subst d22
              have c2h : level_Explicit.gd (level_Explicit.pdi s) = true := c2h
              obtain rfl : level_Explicit.pdi s = s' := Option.some.inj hs'
              obtain rfl : false = rm := Option.some.inj hrm
              have HM := Aside0.mk hrm
              have HH := Aside0.mk (show level_Explicit.lp k k1 l0 m 0 (level_Explicit.pdi s) (ls ++ [(level_Explicit.top (level_Explicit.pdi s)).f0]) (ts ++ [level_Explicit.see (level_Explicit.pdi s) 22]) = some (r1, r2) from H)
              have HG1 := Aside0.mk c2h
              clear H hs' hrm c2h
              go_wp2_with (first | (go_at_call 30; refine (level_Explicit.lastS HA.out HG.out).mono ?_; rintro e w2 ⟨rfl, hb2⟩; have n0_ := Aside0.mk (level_Explicit.rows_below HR.out hb2); have n1_ := Aside0.mk (below_step HB.out hb2); have n2_ := Aside0.mk (level_Explicit.atS_below HA.out hb2); clear HA HR HB hb2; have HA := n2_; have HR := n0_; have HB := n1_; clear n0_ n1_ n2_) | (go_at_call 30; refine (level_Explicit.lastS HA.out HG1.out).mono ?_; rintro e w2 ⟨rfl, hb2⟩; have n0_ := Aside0.mk (level_Explicit.rows_below HR.out hb2); have n1_ := Aside0.mk (below_step HB.out hb2); have n2_ := Aside0.mk (level_Explicit.atS_below HA.out hb2); clear HA HR HB hb2; have HA := n2_; have HR := n0_; have HB := n1_; clear n0_ n1_ n2_) | (go_at_call 33; refine (level_Explicit.pdiS HA.out HG.out).mono ?_; rintro e w2 ⟨rfl, v2, ha2, hk2⟩; have n0_ := Aside0.mk (level_Explicit.rows_kp HR.out HA.out hk2); have n1_ := Aside0.mk (HB.out.trans hk2.1); clear HA HR HB; have HA := Aside0.mk ha2; have HR := n0_; have HB := n1_; clear n0_ n1_ ha2 hk2) | (go_at_call 34; refine (level_Explicit.seeS HA.out HG1.out _).mono ?_; rintro e w2 ⟨rfl, hb2⟩; have n0_ := Aside0.mk (level_Explicit.rows_below HR.out hb2); have n1_ := Aside0.mk (below_step HB.out hb2); have n2_ := Aside0.mk (level_Explicit.atS_below HA.out hb2); clear HA HR HB hb2; have HA := n2_; have HR := n0_; have HB := n1_; clear n0_ n1_ n2_) | (go_at_call 14; (with_reducible refine (level_Removed.calls _ _ _ HM.out).mono ?_); rintro e w2 ⟨rfl, hd2⟩; have hb2 := level_Explicit.drawn_below hd2; have n0_ := Aside0.mk (level_Explicit.rows_below HR.out hb2); have n1_ := Aside0.mk (below_step HB.out hb2); have n2_ := Aside0.mk (level_Explicit.atS_below HA.out hb2); clear HA HR HB hb2 hd2; have HA := n2_; have HR := n0_; have HB := n1_; clear n0_ n1_ n2_) | ((with_reducible refine gate_builtin (b := .append) (xs := #[.tmp 105, .tmp 107]) rfl ?_); at_builtin; refine Kd.R_append (Kd.int .i64) (w0 := w) w.heap.size rfl (.tmp 105) (.tmp 107) 22 3 (.int .i64 0) 8 rfl Try.underlying22 info3 rfl (by decide) (by omega) u4 ls ((level_Explicit.top (level_Explicit.pdi s)).f0) [.int .i64 ((level_Explicit.top (level_Explicit.pdi s)).f0)] (fun _ => True) (fun _ => False) rfl rfl ?aP (fun _ hk => hk.elim) (fun _ _ => trivial) ?aO ?aB ?aS ?aL ?_; (case aP => exact rfl); (case aO => exact HR.out.l); (case aB => exact HB.out); (case aS => exact HB.out.size); (case aL => have := HN.out; have := HE.out; omega); intro v9 w9 ho hb hgr hat; have n0_ := Aside0.mk (level_Explicit.rows_l HR.out ho hgr hat); have n1_ := Aside0.mk (level_Explicit.at_grown HA.out HR.out.l hgr); clear HA HR HB; have HA := n1_; have HR := n0_; have HB := Aside0.mk hb; clear n0_ n1_ ho hb hgr hat) | ((with_reducible refine gate_builtin (b := .append) (xs := #[.tmp 109, .tmp 111]) rfl ?_); at_builtin; refine Kd.R_append (Kd.int .i64) (w0 := w) w.heap.size rfl (.tmp 109) (.tmp 111) 22 3 (.int .i64 0) 8 rfl Try.underlying22 info3 rfl (by decide) (by omega) u5 ts (level_Explicit.see (level_Explicit.pdi s) 22) [.int .i64 (level_Explicit.see (level_Explicit.pdi s) 22)] (fun _ => True) (fun _ => False) rfl rfl ?aP (fun _ hk => hk.elim) (fun _ _ => trivial) ?aO ?aB ?aS ?aL ?_; (case aP => exact rfl); (case aO => exact HR.out.t); (case aB => exact HB.out); (case aS => exact HB.out.size); (case aL => have := HN.out; have := HE.out; omega); intro v9 w9 ho hb hgr hat; have n0_ := Aside0.mk (level_Explicit.rows_t HR.out ho hgr hat); have n1_ := Aside0.mk (level_Explicit.at_grown HA.out HR.out.t hgr); clear HA HR HB; have HA := n1_; have HR := n0_; have HB := Aside0.mk hb; clear n0_ n1_ ho hb hgr hat))
              go_roundg k1
              case measure => exact Nat.lt_succ_self _
              case rel => exact ⟨_, _, _, level_Explicit.pdi s, ls ++ [(level_Explicit.top (level_Explicit.pdi s)).f0], ts ++ [level_Explicit.see (level_Explicit.pdi s) 22], rfl, rfl, (by rw [HW2.out, List.length_append]; rfl), HH, ⟨by rw [List.length_append, List.length_append, HE.out]; rfl⟩, HA, HR, HB⟩
             ·
              have d22b : (c == 22) = false := beq_eq_false_iff_ne.2 d22
              by_cases d9 : c = 9
              ·
               subst d9
               obtain rfl : s = s' := Option.some.inj hs'
               obtain rfl : true = rm := Option.some.inj hrm
               have HM := Aside0.mk hrm
               have HH := Aside0.mk (show level_Explicit.lp k k1 l0 m 0 (s) (ls ++ [-1]) (ts ++ [9]) = some (r1, r2) from H)
               have HG1 := Aside0.mk c2h
               clear H hs' hrm c2h
               go_wp2_with (first | (go_at_call 30; refine (level_Explicit.lastS HA.out HG.out).mono ?_; rintro e w2 ⟨rfl, hb2⟩; have n0_ := Aside0.mk (level_Explicit.rows_below HR.out hb2); have n1_ := Aside0.mk (below_step HB.out hb2); have n2_ := Aside0.mk (level_Explicit.atS_below HA.out hb2); clear HA HR HB hb2; have HA := n2_; have HR := n0_; have HB := n1_; clear n0_ n1_ n2_) | (go_at_call 14; (with_reducible refine (level_Removed.calls _ _ _ HM.out).mono ?_); rintro e w2 ⟨rfl, hd2⟩; have hb2 := level_Explicit.drawn_below hd2; have n0_ := Aside0.mk (level_Explicit.rows_below HR.out hb2); have n1_ := Aside0.mk (below_step HB.out hb2); have n2_ := Aside0.mk (level_Explicit.atS_below HA.out hb2); clear HA HR HB hb2 hd2; have HA := n2_; have HR := n0_; have HB := n1_; clear n0_ n1_ n2_) | ((with_reducible refine gate_builtin (b := .append) (xs := #[.tmp 105, .tmp 107]) rfl ?_); at_builtin; refine Kd.R_append (Kd.int .i64) (w0 := w) w.heap.size rfl (.tmp 105) (.tmp 107) 22 3 (.int .i64 0) 8 rfl Try.underlying22 info3 rfl (by decide) (by omega) u4 ls (-1) [.int .i64 (-1)] (fun _ => True) (fun _ => False) rfl rfl ?aP (fun _ hk => hk.elim) (fun _ _ => trivial) ?aO ?aB ?aS ?aL ?_; (case aP => exact rfl); (case aO => exact HR.out.l); (case aB => exact HB.out); (case aS => exact HB.out.size); (case aL => have := HN.out; have := HE.out; omega); intro v9 w9 ho hb hgr hat; have n0_ := Aside0.mk (level_Explicit.rows_l HR.out ho hgr hat); have n1_ := Aside0.mk (level_Explicit.at_grown HA.out HR.out.l hgr); clear HA HR HB; have HA := n1_; have HR := n0_; have HB := Aside0.mk hb; clear n0_ n1_ ho hb hgr hat) | ((with_reducible refine gate_builtin (b := .append) (xs := #[.tmp 109, .tmp 111]) rfl ?_); at_builtin; refine Kd.R_append (Kd.int .i64) (w0 := w) w.heap.size rfl (.tmp 109) (.tmp 111) 22 3 (.int .i64 0) 8 rfl Try.underlying22 info3 rfl (by decide) (by omega) u5 ts (9) [.int .i64 (9)] (fun _ => True) (fun _ => False) rfl rfl ?aP (fun _ hk => hk.elim) (fun _ _ => trivial) ?aO ?aB ?aS ?aL ?_; (case aP => exact rfl); (case aO => exact HR.out.t); (case aB => exact HB.out); (case aS => exact HB.out.size); (case aL => have := HN.out; have := HE.out; omega); intro v9 w9 ho hb hgr hat; have n0_ := Aside0.mk (level_Explicit.rows_t HR.out ho hgr hat); have n1_ := Aside0.mk (level_Explicit.at_grown HA.out HR.out.t hgr); clear HA HR HB; have HA := n1_; have HR := n0_; have HB := Aside0.mk hb; clear n0_ n1_ ho hb hgr hat))
               go_roundg k1
               case measure => exact Nat.lt_succ_self _
               case rel => exact ⟨_, _, _, s, ls ++ [-1], ts ++ [9], rfl, rfl, (by rw [HW2.out, List.length_append]; rfl), HH, ⟨by rw [List.length_append, List.length_append, HE.out]; rfl⟩, HA, HR, HB⟩
              ·
               have d9b : (c == 9) = false := beq_eq_false_iff_ne.2 d9
               by_cases d20 : c = 20
               ·
                subst d20
                obtain rfl : level_Explicit.iso s 1 = s' := Option.some.inj hs'
                obtain rfl : false = rm := Option.some.inj hrm
                have HM := Aside0.mk hrm
                have HH := Aside0.mk (show level_Explicit.lp k k1 l0 m 0 (level_Explicit.iso s 1) (ls ++ [(level_Explicit.top s).f0]) (ts ++ [level_Explicit.see s 20]) = some (r1, r2) from H)
                have HG1 := Aside0.mk c2h
                clear H hs' hrm c2h
                go_wp2_with (first | (go_at_call 30; refine (level_Explicit.lastS HA.out HG.out).mono ?_; rintro e w2 ⟨rfl, hb2⟩; have n0_ := Aside0.mk (level_Explicit.rows_below HR.out hb2); have n1_ := Aside0.mk (below_step HB.out hb2); have n2_ := Aside0.mk (level_Explicit.atS_below HA.out hb2); clear HA HR HB hb2; have HA := n2_; have HR := n0_; have HB := n1_; clear n0_ n1_ n2_) | (go_at_call 34; refine (level_Explicit.seeS HA.out HG.out _).mono ?_; rintro e w2 ⟨rfl, hb2⟩; have n0_ := Aside0.mk (level_Explicit.rows_below HR.out hb2); have n1_ := Aside0.mk (below_step HB.out hb2); have n2_ := Aside0.mk (level_Explicit.atS_below HA.out hb2); clear HA HR HB hb2; have HA := n2_; have HR := n0_; have HB := n1_; clear n0_ n1_ n2_) | (go_at_call 35; refine (level_Explicit.isoS HA.out HG.out 1).mono ?_; rintro e w2 ⟨rfl, v2, ha2, hk2⟩; have n0_ := Aside0.mk (level_Explicit.rows_kp HR.out HA.out hk2); have n1_ := Aside0.mk (HB.out.trans hk2.1); clear HA HR HB; have HA := Aside0.mk ha2; have HR := n0_; have HB := n1_; clear n0_ n1_ ha2 hk2) | (go_at_call 14; (with_reducible refine (level_Removed.calls _ _ _ HM.out).mono ?_); rintro e w2 ⟨rfl, hd2⟩; have hb2 := level_Explicit.drawn_below hd2; have n0_ := Aside0.mk (level_Explicit.rows_below HR.out hb2); have n1_ := Aside0.mk (below_step HB.out hb2); have n2_ := Aside0.mk (level_Explicit.atS_below HA.out hb2); clear HA HR HB hb2 hd2; have HA := n2_; have HR := n0_; have HB := n1_; clear n0_ n1_ n2_) | ((with_reducible refine gate_builtin (b := .append) (xs := #[.tmp 105, .tmp 107]) rfl ?_); at_builtin; refine Kd.R_append (Kd.int .i64) (w0 := w) w.heap.size rfl (.tmp 105) (.tmp 107) 22 3 (.int .i64 0) 8 rfl Try.underlying22 info3 rfl (by decide) (by omega) u4 ls ((level_Explicit.top s).f0) [.int .i64 ((level_Explicit.top s).f0)] (fun _ => True) (fun _ => False) rfl rfl ?aP (fun _ hk => hk.elim) (fun _ _ => trivial) ?aO ?aB ?aS ?aL ?_; (case aP => exact rfl); (case aO => exact HR.out.l); (case aB => exact HB.out); (case aS => exact HB.out.size); (case aL => have := HN.out; have := HE.out; omega); intro v9 w9 ho hb hgr hat; have n0_ := Aside0.mk (level_Explicit.rows_l HR.out ho hgr hat); have n1_ := Aside0.mk (level_Explicit.at_grown HA.out HR.out.l hgr); clear HA HR HB; have HA := n1_; have HR := n0_; have HB := Aside0.mk hb; clear n0_ n1_ ho hb hgr hat) | ((with_reducible refine gate_builtin (b := .append) (xs := #[.tmp 109, .tmp 111]) rfl ?_); at_builtin; refine Kd.R_append (Kd.int .i64) (w0 := w) w.heap.size rfl (.tmp 109) (.tmp 111) 22 3 (.int .i64 0) 8 rfl Try.underlying22 info3 rfl (by decide) (by omega) u5 ts (level_Explicit.see s 20) [.int .i64 (level_Explicit.see s 20)] (fun _ => True) (fun _ => False) rfl rfl ?aP (fun _ hk => hk.elim) (fun _ _ => trivial) ?aO ?aB ?aS ?aL ?_; (case aP => exact rfl); (case aO => exact HR.out.t); (case aB => exact HB.out); (case aS => exact HB.out.size); (case aL => have := HN.out; have := HE.out; omega); intro v9 w9 ho hb hgr hat; have n0_ := Aside0.mk (level_Explicit.rows_t HR.out ho hgr hat); have n1_ := Aside0.mk (level_Explicit.at_grown HA.out HR.out.t hgr); clear HA HR HB; have HA := n1_; have HR := n0_; have HB := Aside0.mk hb; clear n0_ n1_ ho hb hgr hat))
                go_roundg k1
                case measure => exact Nat.lt_succ_self _
                case rel => exact ⟨_, _, _, level_Explicit.iso s 1, ls ++ [(level_Explicit.top s).f0], ts ++ [level_Explicit.see s 20], rfl, rfl, (by rw [HW2.out, List.length_append]; rfl), HH, ⟨by rw [List.length_append, List.length_append, HE.out]; rfl⟩, HA, HR, HB⟩
               ·
                have d20b : (c == 20) = false := beq_eq_false_iff_ne.2 d20
                by_cases d19 : c = 19
                ·
                 subst d19
                 obtain rfl : level_Explicit.iso s 0 = s' := Option.some.inj hs'
                 obtain rfl : false = rm := Option.some.inj hrm
                 have HM := Aside0.mk hrm
                 have HH := Aside0.mk (show level_Explicit.lp k k1 l0 m 0 (level_Explicit.iso s 0) (ls ++ [(level_Explicit.top s).f0]) (ts ++ [level_Explicit.see s 19]) = some (r1, r2) from H)
                 have HG1 := Aside0.mk c2h
                 clear H hs' hrm c2h
                 go_wp2_with (first | (go_at_call 30; refine (level_Explicit.lastS HA.out HG.out).mono ?_; rintro e w2 ⟨rfl, hb2⟩; have n0_ := Aside0.mk (level_Explicit.rows_below HR.out hb2); have n1_ := Aside0.mk (below_step HB.out hb2); have n2_ := Aside0.mk (level_Explicit.atS_below HA.out hb2); clear HA HR HB hb2; have HA := n2_; have HR := n0_; have HB := n1_; clear n0_ n1_ n2_) | (go_at_call 34; refine (level_Explicit.seeS HA.out HG.out _).mono ?_; rintro e w2 ⟨rfl, hb2⟩; have n0_ := Aside0.mk (level_Explicit.rows_below HR.out hb2); have n1_ := Aside0.mk (below_step HB.out hb2); have n2_ := Aside0.mk (level_Explicit.atS_below HA.out hb2); clear HA HR HB hb2; have HA := n2_; have HR := n0_; have HB := n1_; clear n0_ n1_ n2_) | (go_at_call 35; refine (level_Explicit.isoS HA.out HG.out 0).mono ?_; rintro e w2 ⟨rfl, v2, ha2, hk2⟩; have n0_ := Aside0.mk (level_Explicit.rows_kp HR.out HA.out hk2); have n1_ := Aside0.mk (HB.out.trans hk2.1); clear HA HR HB; have HA := Aside0.mk ha2; have HR := n0_; have HB := n1_; clear n0_ n1_ ha2 hk2) | (go_at_call 14; (with_reducible refine (level_Removed.calls _ _ _ HM.out).mono ?_); rintro e w2 ⟨rfl, hd2⟩; have hb2 := level_Explicit.drawn_below hd2; have n0_ := Aside0.mk (level_Explicit.rows_below HR.out hb2); have n1_ := Aside0.mk (below_step HB.out hb2); have n2_ := Aside0.mk (level_Explicit.atS_below HA.out hb2); clear HA HR HB hb2 hd2; have HA := n2_; have HR := n0_; have HB := n1_; clear n0_ n1_ n2_) | ((with_reducible refine gate_builtin (b := .append) (xs := #[.tmp 105, .tmp 107]) rfl ?_); at_builtin; refine Kd.R_append (Kd.int .i64) (w0 := w) w.heap.size rfl (.tmp 105) (.tmp 107) 22 3 (.int .i64 0) 8 rfl Try.underlying22 info3 rfl (by decide) (by omega) u4 ls ((level_Explicit.top s).f0) [.int .i64 ((level_Explicit.top s).f0)] (fun _ => True) (fun _ => False) rfl rfl ?aP (fun _ hk => hk.elim) (fun _ _ => trivial) ?aO ?aB ?aS ?aL ?_; (case aP => exact rfl); (case aO => exact HR.out.l); (case aB => exact HB.out); (case aS => exact HB.out.size); (case aL => have := HN.out; have := HE.out; omega); intro v9 w9 ho hb hgr hat; have n0_ := Aside0.mk (level_Explicit.rows_l HR.out ho hgr hat); have n1_ := Aside0.mk (level_Explicit.at_grown HA.out HR.out.l hgr); clear HA HR HB; have HA := n1_; have HR := n0_; have HB := Aside0.mk hb; clear n0_ n1_ ho hb hgr hat) | ((with_reducible refine gate_builtin (b := .append) (xs := #[.tmp 109, .tmp 111]) rfl ?_); at_builtin; refine Kd.R_append (Kd.int .i64) (w0 := w) w.heap.size rfl (.tmp 109) (.tmp 111) 22 3 (.int .i64 0) 8 rfl Try.underlying22 info3 rfl (by decide) (by omega) u5 ts (level_Explicit.see s 19) [.int .i64 (level_Explicit.see s 19)] (fun _ => True) (fun _ => False) rfl rfl ?aP (fun _ hk => hk.elim) (fun _ _ => trivial) ?aO ?aB ?aS ?aL ?_; (case aP => exact rfl); (case aO => exact HR.out.t); (case aB => exact HB.out); (case aS => exact HB.out.size); (case aL => have := HN.out; have := HE.out; omega); intro v9 w9 ho hb hgr hat; have n0_ := Aside0.mk (level_Explicit.rows_t HR.out ho hgr hat); have n1_ := Aside0.mk (level_Explicit.at_grown HA.out HR.out.t hgr); clear HA HR HB; have HA := n1_; have HR := n0_; have HB := Aside0.mk hb; clear n0_ n1_ ho hb hgr hat))
                 go_roundg k1
                 case measure => exact Nat.lt_succ_self _
                 case rel => exact ⟨_, _, _, level_Explicit.iso s 0, ls ++ [(level_Explicit.top s).f0], ts ++ [level_Explicit.see s 19], rfl, rfl, (by rw [HW2.out, List.length_append]; rfl), HH, ⟨by rw [List.length_append, List.length_append, HE.out]; rfl⟩, HA, HR, HB⟩
                ·
                 have d19b : (c == 19) = false := beq_eq_false_iff_ne.2 d19
                 by_cases d21 : c = 21
                 ·
                  subst d21
                  have hs2 : (if (ls.length : Int) < m.length ∧ (ls.length : Int) + 1 ≤ rd m (ls.length : Int) ∧ rd m (ls.length : Int) ≤ l0.length then (base_Level.f k ((l0.take (rd m (ls.length : Int)).toNat).drop (ls.length + 1))).bind fun r => some (level_Explicit.iso s r.1) else none) = some s' := hs'
                  clear hs'
                  by_cases e1 : (ls.length : Int) < m.length ∧ (ls.length : Int) + 1 ≤ rd m (ls.length : Int) ∧ rd m (ls.length : Int) ≤ l0.length
                  ·
                   rw [if_pos e1] at hs2
                   obtain ⟨⟨y1, y2⟩, hy, hs3⟩ := Option.bind_eq_some_iff.1 hs2
                   obtain rfl : level_Explicit.iso s y1 = s' := Option.some.inj hs3
                   obtain rfl : false = rm := Option.some.inj hrm
                   have HM := Aside0.mk hrm
                   have HY := Aside0.mk hy
                   have HH := Aside0.mk (show level_Explicit.lp k k1 l0 m 0 (level_Explicit.iso s y1) (ls ++ [(level_Explicit.top s).f0]) (ts ++ [level_Explicit.see s 21]) = some (r1, r2) from H)
                   obtain ⟨g4, c4, rfl, hgb4, hgl4, hty4⟩ := Kd.R_form HR.out.m (by have := e1.1; omega)
                   have HX := Aside0.mk e1
                   obtain ⟨i0, hi0, hz0, hs0, hb0⟩ := info_parts info3
                   have hcut := cut_mid (P := Try.prog) 22 3 .i64 .i64 Try.underlying22 hi0 1 hs0 (some ad) l0.length c0 ((ls.length : Int) + 1) (rd m (ls.length : Int)) (by omega) e1.2.1 e1.2.2 HC0.out
                   have hcm : Kd.C (Kd.int .i64) w (if c0 = ls.length + 1 then (some ad : Option Addr) else (some ad : Option Addr).map (·.add ((ls.length + 1) * 1))) _ _ := Kd.C_mid (lo := ls.length + 1) (hi := (rd m (ls.length : Int)).toNat) HR0.out (by omega) (by omega) HC0.out
                   have e1b : decide ((ls.length : Int) < (m.length : Int)) = true := decide_eq_true e1.1
                   have e1c := eq_true e1.1
                   rw [show ((ls.length : Int) + 1).toNat = ls.length + 1 by omega] at hcut
                   have hlen : ((l0.take (rd m (ls.length : Int)).toNat).drop (ls.length + 1)).length = (rd m (ls.length : Int)).toNat - (ls.length + 1) := by rw [List.length_drop, List.length_take]; omega
                   rw [← hlen] at hcut
                   generalize hseg : (l0.take (rd m (ls.length : Int)).toNat).drop (ls.length + 1) = seg at *
                   generalize (if c0 = ls.length + 1 then (some ad : Option Addr) else (some ad : Option Addr).map (·.add ((ls.length + 1) * 1))) = A2 at hcut hcm
                   have HCM := Aside0.mk hcm
                   have HSC := Aside0.mk (show seg.length ≤ c0 - (ls.length + 1) by have := HC0.out; have := e1.2.2; rw [← hseg, List.length_drop, List.length_take]; omega)
                   generalize c0 - (ls.length + 1) = c2 at *
                   obtain ⟨mi, hmi⟩ : ∃ x, x = rd m (ls.length : Int) := ⟨_, rfl⟩
                   rw [← hmi] at hcut
                   have KM := Aside0.mk hmi
                   clear H hs2 hs3 hrm hmi hcm c2h hy e1 hgb4 hgl4 hty4 hi0 hz0 hs0 hb0 hlen hseg
                   go_wp2_with (first | (go_at_call 30; refine (level_Explicit.lastS HA.out HG.out).mono ?_; rintro e w2 ⟨rfl, hb2⟩; have n0_ := Aside0.mk (level_Explicit.rows_below HR.out hb2); have n1_ := Aside0.mk (below_step HB.out hb2); have n2_ := Aside0.mk (level_Explicit.atS_below HA.out hb2); clear HA HR HB hb2; have HA := n2_; have HR := n0_; have HB := n1_; clear n0_ n1_ n2_) | (go_at_call 34; refine (level_Explicit.seeS HA.out HG.out _).mono ?_; rintro e w2 ⟨rfl, hb2⟩; have n0_ := Aside0.mk (level_Explicit.rows_below HR.out hb2); have n1_ := Aside0.mk (below_step HB.out hb2); have n2_ := Aside0.mk (level_Explicit.atS_below HA.out hb2); clear HA HR HB hb2; have HA := n2_; have HR := n0_; have HB := n1_; clear n0_ n1_ n2_; obtain ⟨hx4, hf4⟩ := Kd.R_celln 0 HR.out.m (ls.length : Int) (by omega) HX.out.1; clear hf4; replace hx4 : w2.cell? ⟨g4, ls.length, none⟩ = some (.int .i64 mi) := hx4.trans (by rw [KM.out]; rfl)) | (go_at_call 36; refine (base_Level.calls k _ _ _ y1 y2 _ (Kd.C_below HCM.out HB.out) HSC.out HY.out).mono ?_; rintro e w2 ⟨rfl, hb2⟩; have n0_ := Aside0.mk (level_Explicit.rows_below HR.out hb2); have n1_ := Aside0.mk (below_step HB.out hb2); have n2_ := Aside0.mk (level_Explicit.atS_below HA.out hb2); clear HA HR HB hb2; have HA := n2_; have HR := n0_; have HB := n1_; clear n0_ n1_ n2_) | (go_at_call 35; refine (level_Explicit.isoS HA.out HG.out y1).mono ?_; rintro e w2 ⟨rfl, v2, ha2, hk2⟩; have n0_ := Aside0.mk (level_Explicit.rows_kp HR.out HA.out hk2); have n1_ := Aside0.mk (HB.out.trans hk2.1); clear HA HR HB; have HA := Aside0.mk ha2; have HR := n0_; have HB := n1_; clear n0_ n1_ ha2 hk2) | (go_at_call 14; (with_reducible refine (level_Removed.calls _ _ _ HM.out).mono ?_); rintro e w2 ⟨rfl, hd2⟩; have hb2 := level_Explicit.drawn_below hd2; have n0_ := Aside0.mk (level_Explicit.rows_below HR.out hb2); have n1_ := Aside0.mk (below_step HB.out hb2); have n2_ := Aside0.mk (level_Explicit.atS_below HA.out hb2); clear HA HR HB hb2 hd2; have HA := n2_; have HR := n0_; have HB := n1_; clear n0_ n1_ n2_) | ((with_reducible refine gate_builtin (b := .append) (xs := #[.tmp 105, .tmp 107]) rfl ?_); at_builtin; refine Kd.R_append (Kd.int .i64) (w0 := w) w.heap.size rfl (.tmp 105) (.tmp 107) 22 3 (.int .i64 0) 8 rfl Try.underlying22 info3 rfl (by decide) (by omega) u4 ls ((level_Explicit.top s).f0) [.int .i64 ((level_Explicit.top s).f0)] (fun _ => True) (fun _ => False) rfl rfl ?aP (fun _ hk => hk.elim) (fun _ _ => trivial) ?aO ?aB ?aS ?aL ?_; (case aP => exact rfl); (case aO => exact HR.out.l); (case aB => exact HB.out); (case aS => exact HB.out.size); (case aL => have := HN.out; have := HE.out; omega); intro v9 w9 ho hb hgr hat; have n0_ := Aside0.mk (level_Explicit.rows_l HR.out ho hgr hat); have n1_ := Aside0.mk (level_Explicit.at_grown HA.out HR.out.l hgr); clear HA HR HB; have HA := n1_; have HR := n0_; have HB := Aside0.mk hb; clear n0_ n1_ ho hb hgr hat) | ((with_reducible refine gate_builtin (b := .append) (xs := #[.tmp 109, .tmp 111]) rfl ?_); at_builtin; refine Kd.R_append (Kd.int .i64) (w0 := w) w.heap.size rfl (.tmp 109) (.tmp 111) 22 3 (.int .i64 0) 8 rfl Try.underlying22 info3 rfl (by decide) (by omega) u5 ts (level_Explicit.see s 21) [.int .i64 (level_Explicit.see s 21)] (fun _ => True) (fun _ => False) rfl rfl ?aP (fun _ hk => hk.elim) (fun _ _ => trivial) ?aO ?aB ?aS ?aL ?_; (case aP => exact rfl); (case aO => exact HR.out.t); (case aB => exact HB.out); (case aS => exact HB.out.size); (case aL => have := HN.out; have := HE.out; omega); intro v9 w9 ho hb hgr hat; have n0_ := Aside0.mk (level_Explicit.rows_t HR.out ho hgr hat); have n1_ := Aside0.mk (level_Explicit.at_grown HA.out HR.out.t hgr); clear HA HR HB; have HA := n1_; have HR := n0_; have HB := Aside0.mk hb; clear n0_ n1_ ho hb hgr hat))
                   go_roundg k1
                   case measure => exact Nat.lt_succ_self _
                   case rel => exact ⟨_, _, _, level_Explicit.iso s y1, ls ++ [(level_Explicit.top s).f0], ts ++ [level_Explicit.see s 21], rfl, rfl, (by rw [HW2.out, List.length_append]; rfl), HH, ⟨by rw [List.length_append, List.length_append, HE.out]; rfl⟩, HA, HR, HB⟩
                  ·
                   rw [if_neg e1] at hs2
                   cases hs2
                 ·
                  have d21b : (c == 21) = false := beq_eq_false_iff_ne.2 d21
                  have e1 : level_Explicit.s1 s c = s := by unfold level_Explicit.s1; rw [if_neg d16, if_neg d14, if_neg d17, if_neg d15, if_neg d18, if_neg d22]
                  have e2 : level_Explicit.s2 k l0 m ls.length c (level_Explicit.s1 s c) = some s := by rw [e1]; unfold level_Explicit.s2; rw [if_neg d20, if_neg d19, if_neg d21]
                  have e3 : level_Removed.f c = some false := by unfold level_Removed.f; rw [if_neg d16, if_neg d14, if_neg d17, if_neg d15, if_neg d18, if_neg d9]
                  have e4 : level_Explicit.at1 0 s c = (level_Explicit.top s).f0 := by unfold level_Explicit.at1; rw [if_neg d10, if_neg d22]
                  have e5 : level_Explicit.as1 s c = level_Explicit.see s c := by unfold level_Explicit.as1; rw [if_neg d10, if_neg d16, if_neg d14, if_neg d17, if_neg d15, if_neg d18, if_neg d22, if_neg d9]
                  obtain rfl : s = s' := Option.some.inj (e2.symm.trans hs')
                  obtain rfl : false = rm := Option.some.inj (e3.symm.trans hrm)
                  rw [e4, e5] at H
                  have HM := Aside0.mk e3
                  have HH := Aside0.mk (show level_Explicit.lp k k1 l0 m 0 s (ls ++ [(level_Explicit.top s).f0]) (ts ++ [level_Explicit.see s c]) = some (r1, r2) from H)
                  clear H hs' hrm c2h e1 e2 e3 e4 e5 d10 d16 d14 d17 d15 d18 d22 d9 d20 d19 d21
                  go_wp2_with (first | (go_at_call 30; refine (level_Explicit.lastS HA.out HG.out).mono ?_; rintro e w2 ⟨rfl, hb2⟩; have n0_ := Aside0.mk (level_Explicit.rows_below HR.out hb2); have n1_ := Aside0.mk (below_step HB.out hb2); have n2_ := Aside0.mk (level_Explicit.atS_below HA.out hb2); clear HA HR HB hb2; have HA := n2_; have HR := n0_; have HB := n1_; clear n0_ n1_ n2_) | (go_at_call 34; refine (level_Explicit.seeS HA.out HG.out _).mono ?_; rintro e w2 ⟨rfl, hb2⟩; have n0_ := Aside0.mk (level_Explicit.rows_below HR.out hb2); have n1_ := Aside0.mk (below_step HB.out hb2); have n2_ := Aside0.mk (level_Explicit.atS_below HA.out hb2); clear HA HR HB hb2; have HA := n2_; have HR := n0_; have HB := n1_; clear n0_ n1_ n2_) | (go_at_call 14; (with_reducible refine (level_Removed.calls _ _ _ HM.out).mono ?_); rintro e w2 ⟨rfl, hd2⟩; have hb2 := level_Explicit.drawn_below hd2; have n0_ := Aside0.mk (level_Explicit.rows_below HR.out hb2); have n1_ := Aside0.mk (below_step HB.out hb2); have n2_ := Aside0.mk (level_Explicit.atS_below HA.out hb2); clear HA HR HB hb2 hd2; have HA := n2_; have HR := n0_; have HB := n1_; clear n0_ n1_ n2_) | ((with_reducible refine gate_builtin (b := .append) (xs := #[.tmp 105, .tmp 107]) rfl ?_); at_builtin; refine Kd.R_append (Kd.int .i64) (w0 := w) w.heap.size rfl (.tmp 105) (.tmp 107) 22 3 (.int .i64 0) 8 rfl Try.underlying22 info3 rfl (by decide) (by omega) u4 ls ((level_Explicit.top s).f0) [.int .i64 ((level_Explicit.top s).f0)] (fun _ => True) (fun _ => False) rfl rfl ?aP (fun _ hk => hk.elim) (fun _ _ => trivial) ?aO ?aB ?aS ?aL ?_; (case aP => exact rfl); (case aO => exact HR.out.l); (case aB => exact HB.out); (case aS => exact HB.out.size); (case aL => have := HN.out; have := HE.out; omega); intro v9 w9 ho hb hgr hat; have n0_ := Aside0.mk (level_Explicit.rows_l HR.out ho hgr hat); have n1_ := Aside0.mk (level_Explicit.at_grown HA.out HR.out.l hgr); clear HA HR HB; have HA := n1_; have HR := n0_; have HB := Aside0.mk hb; clear n0_ n1_ ho hb hgr hat) | ((with_reducible refine gate_builtin (b := .append) (xs := #[.tmp 109, .tmp 111]) rfl ?_); at_builtin; refine Kd.R_append (Kd.int .i64) (w0 := w) w.heap.size rfl (.tmp 109) (.tmp 111) 22 3 (.int .i64 0) 8 rfl Try.underlying22 info3 rfl (by decide) (by omega) u5 ts (level_Explicit.see s c) [.int .i64 (level_Explicit.see s c)] (fun _ => True) (fun _ => False) rfl rfl ?aP (fun _ hk => hk.elim) (fun _ _ => trivial) ?aO ?aB ?aS ?aL ?_; (case aP => exact rfl); (case aO => exact HR.out.t); (case aB => exact HB.out); (case aS => exact HB.out.size); (case aL => have := HN.out; have := HE.out; omega); intro v9 w9 ho hb hgr hat; have n0_ := Aside0.mk (level_Explicit.rows_t HR.out ho hgr hat); have n1_ := Aside0.mk (level_Explicit.at_grown HA.out HR.out.t hgr); clear HA HR HB; have HA := n1_; have HR := n0_; have HB := Aside0.mk hb; clear n0_ n1_ ho hb hgr hat))
                  go_roundg k1
                  case measure => exact Nat.lt_succ_self _
                  case rel => exact ⟨_, _, _, s, ls ++ [(level_Explicit.top s).f0], ts ++ [level_Explicit.see s c], rfl, rfl, (by rw [HW2.out, List.length_append]; rfl), HH, ⟨by rw [List.length_append, List.length_append, HE.out]; rfl⟩, HA, HR, HB⟩
      ·
       rw [if_neg c2] at H
       cases H
     ·
      rw [if_neg c1] at H
      obtain ⟨rfl, rfl⟩ : ls = r1 ∧ ts = r2 := by simpa using H
      have c1b : decide ((ls.length : Int) < (l0.length : Int)) = false := decide_eq_false (by omega)
      have c1b2 : decide (ls.length < l0.length) = false := decide_eq_false c1
      clear H c1
      go_wp2
      go_ret2
      exact ⟨_, _, rfl, Kd.R_reok rfl HR.out.l (fun k hk he => HR.out.lt k hk he.symm), Kd.R_reok rfl HR.out.t (fun k hk he => HR.out.lt k he.symm hk), HB.out⟩
  ·
   go_wp2_with (go_at_call 15; refine (base_Match.calls k _ _ _ m _ (Kd.C_alloc (Kd.C_alloc HR0.out _) _) HC0.out HM.out).mono ?_; rintro e w1 ⟨vm, rfl, hO, hb1⟩; have HA := Aside0.mk (level_Explicit.atS_below (level_Explicit.at_new w 1) hb1); have HR := Aside0.mk (show level_Explicit.Rows w1 w.heap.size (.slice none 0 0) (.slice none 0 0) vm [] [] m from ⟨Kd.R_nil _ _ _ _ _, Kd.R_nil _ _ _ _ _, Kd.R_lower hO (by rw [World.size_alloc, World.size_alloc]; omega), fun k hk => by simp [Value.ownBlock] at hk, fun k hk => by simp [Value.ownBlock] at hk, fun k hk => by simp [Value.ownBlock] at hk⟩); have n0_ := Aside0.mk (below_step (below_alloc (below_alloc HB.out _) _) hb1); clear HB hb1 hO; have HB := n0_; clear n0_)
   generalize Value.slice (some ⟨w.heap.size, 0, none⟩) 1 1 = v0 at *
   go_loopg [4, 5, 29] k (fun kx s4 s5 s29 wr => ∃ (vl vt v : Value) (s : level_Explicit.S) (ls ts : List Int), s4 = vl ∧ s5 = vt ∧ s29 = .int .i64 (ls.length : Int) ∧ Aside0 (level_Explicit.lp k kx l0 m 1 s ls ts = some (r1, r2)) ∧ Aside0 (ts.length = ls.length) ∧ Aside0 (level_Explicit.AtS wr w.heap.size (w.heap.size + 1) v s) ∧ Aside0 (level_Explicit.Rows wr w.heap.size vl vt vm ls ts m) ∧ Aside0 (Below w.heap.size w wr))
   case atStart => exact ⟨_, _, _, _, [], [], rfl, rfl, rfl, HA1, ⟨rfl⟩, HA, HR, HB⟩
   case round =>
    clear HA1 HA HR HB
    obtain ⟨vl, vt, v, s, ls, ts, rfl, rfl, rfl, HL, HE, HA, HR, HB⟩ := hrel
    cases gk with
    | zero => exact absurd HL.out (by simp [level_Explicit.lp])
    | succ k1 =>
     have H := HL.out
     clear HL
     rw [level_Explicit.lp] at H
     by_cases c1 : ls.length < l0.length
     ·
      rw [if_pos c1] at H
      by_cases c2 : ls.length < 1000000 ∧ level_Explicit.gd s = true ∧ level_Explicit.gd (level_Explicit.s1 s (rd l0 (ls.length : Int))) = true
      ·
       rw [if_pos c2] at H
       obtain ⟨c2n, c2g, c2h⟩ := c2
       have HN := Aside0.mk c2n
       have HG := Aside0.mk c2g
       have c1i : (ls.length : Int) < (l0.length : Int) := by omega
       have c0i : (0 : Int) ≤ (ls.length : Int) := by omega
       have hw : IntKind.i64.wrap ((ls.length : Int) + 1) = (ls.length : Int) + 1 := by rw [IntKind.wrap_i64]; omega
       have hw2 : (ls.length : Int) + 1 = ((ls.length + 1 : Nat) : Int) := by omega
       have HW2 := Aside0.mk hw2
       have HCI := Aside0.mk c1
       obtain ⟨ad, e1, hx⟩ := Kd.at_int HR0.out (ls.length : Int) c0i c1i
       cases e1
       replace hx := (HB.out.cell (World.block_lt_of_cell? w _ hx)).trans hx
       have c1b : decide ((ls.length : Int) < (l0.length : Int)) = true := decide_eq_true c1i
       simp only [Int.toNat_natCast] at hx
       have c1b2 : decide (ls.length < l0.length) = true := decide_eq_true c1
       have q1 := eq_true c0i
       have q2 := eq_true c1i
       obtain ⟨s', hs', H⟩ := Option.bind_eq_some_iff.1 H
       obtain ⟨rm, hrm, H⟩ := Option.bind_eq_some_iff.1 H
       clear c1 c2n c2g c0i c1i hw2
       generalize rd l0 (ls.length : Int) = c at *
       by_cases d10 : c = 10
       ·
        subst d10
        obtain rfl : s = s' := Option.some.inj hs'
        obtain rfl : false = rm := Option.some.inj hrm
        have HM := Aside0.mk hrm
        have HH := Aside0.mk (show level_Explicit.lp k k1 l0 m 1 (s) (ls ++ [1]) (ts ++ [10]) = some (r1, r2) from H)
        have HG1 := Aside0.mk c2h
        clear H hs' hrm c2h
        go_wp2_with (first | (go_at_call 30; refine (level_Explicit.lastS HA.out HG.out).mono ?_; rintro e w2 ⟨rfl, hb2⟩; have n0_ := Aside0.mk (level_Explicit.rows_below HR.out hb2); have n1_ := Aside0.mk (below_step HB.out hb2); have n2_ := Aside0.mk (level_Explicit.atS_below HA.out hb2); clear HA HR HB hb2; have HA := n2_; have HR := n0_; have HB := n1_; clear n0_ n1_ n2_) | (go_at_call 14; (with_reducible refine (level_Removed.calls _ _ _ HM.out).mono ?_); rintro e w2 ⟨rfl, hd2⟩; have hb2 := level_Explicit.drawn_below hd2; have n0_ := Aside0.mk (level_Explicit.rows_below HR.out hb2); have n1_ := Aside0.mk (below_step HB.out hb2); have n2_ := Aside0.mk (level_Explicit.atS_below HA.out hb2); clear HA HR HB hb2 hd2; have HA := n2_; have HR := n0_; have HB := n1_; clear n0_ n1_ n2_) | ((with_reducible refine gate_builtin (b := .append) (xs := #[.tmp 105, .tmp 107]) rfl ?_); at_builtin; refine Kd.R_append (Kd.int .i64) (w0 := w) w.heap.size rfl (.tmp 105) (.tmp 107) 22 3 (.int .i64 0) 8 rfl Try.underlying22 info3 rfl (by decide) (by omega) u4 ls (1) [.int .i64 (1)] (fun _ => True) (fun _ => False) rfl rfl ?aP (fun _ hk => hk.elim) (fun _ _ => trivial) ?aO ?aB ?aS ?aL ?_; (case aP => exact rfl); (case aO => exact HR.out.l); (case aB => exact HB.out); (case aS => exact HB.out.size); (case aL => have := HN.out; have := HE.out; omega); intro v9 w9 ho hb hgr hat; have n0_ := Aside0.mk (level_Explicit.rows_l HR.out ho hgr hat); have n1_ := Aside0.mk (level_Explicit.at_grown HA.out HR.out.l hgr); clear HA HR HB; have HA := n1_; have HR := n0_; have HB := Aside0.mk hb; clear n0_ n1_ ho hb hgr hat) | ((with_reducible refine gate_builtin (b := .append) (xs := #[.tmp 109, .tmp 111]) rfl ?_); at_builtin; refine Kd.R_append (Kd.int .i64) (w0 := w) w.heap.size rfl (.tmp 109) (.tmp 111) 22 3 (.int .i64 0) 8 rfl Try.underlying22 info3 rfl (by decide) (by omega) u5 ts (10) [.int .i64 (10)] (fun _ => True) (fun _ => False) rfl rfl ?aP (fun _ hk => hk.elim) (fun _ _ => trivial) ?aO ?aB ?aS ?aL ?_; (case aP => exact rfl); (case aO => exact HR.out.t); (case aB => exact HB.out); (case aS => exact HB.out.size); (case aL => have := HN.out; have := HE.out; omega); intro v9 w9 ho hb hgr hat; have n0_ := Aside0.mk (level_Explicit.rows_t HR.out ho hgr hat); have n1_ := Aside0.mk (level_Explicit.at_grown HA.out HR.out.t hgr); clear HA HR HB; have HA := n1_; have HR := n0_; have HB := Aside0.mk hb; clear n0_ n1_ ho hb hgr hat))
        go_roundg k1
        case measure => exact Nat.lt_succ_self _
        case rel => exact ⟨_, _, _, s, ls ++ [1], ts ++ [10], rfl, rfl, (by rw [HW2.out, List.length_append]; rfl), HH, ⟨by rw [List.length_append, List.length_append, HE.out]; rfl⟩, HA, HR, HB⟩
       ·
        have d10b : (c == 10) = false := beq_eq_false_iff_ne.2 d10
        by_cases d16 : c = 16
        ·
         subst d16
         obtain rfl : level_Explicit.emb s 1 (-1) = s' := Option.some.inj hs'
         obtain rfl : true = rm := Option.some.inj hrm
         have HM := Aside0.mk hrm
         have HH := Aside0.mk (show level_Explicit.lp k k1 l0 m 1 (level_Explicit.emb s 1 (-1)) (ls ++ [-1]) (ts ++ [16]) = some (r1, r2) from H)
         have HG1 := Aside0.mk c2h
         clear H hs' hrm c2h
         go_wp2_with (first | (go_at_call 30; refine (level_Explicit.lastS HA.out HG.out).mono ?_; rintro e w2 ⟨rfl, hb2⟩; have n0_ := Aside0.mk (level_Explicit.rows_below HR.out hb2); have n1_ := Aside0.mk (below_step HB.out hb2); have n2_ := Aside0.mk (level_Explicit.atS_below HA.out hb2); clear HA HR HB hb2; have HA := n2_; have HR := n0_; have HB := n1_; clear n0_ n1_ n2_) | (go_at_call 31; refine (level_Explicit.embS HA.out HG.out 1 (-1)).mono ?_; rintro e w2 ⟨rfl, v2, ha2, hk2⟩; have n0_ := Aside0.mk (level_Explicit.rows_kp HR.out HA.out hk2); have n1_ := Aside0.mk (HB.out.trans hk2.1); clear HA HR HB; have HA := Aside0.mk ha2; have HR := n0_; have HB := n1_; clear n0_ n1_ ha2 hk2) | (go_at_call 14; (with_reducible refine (level_Removed.calls _ _ _ HM.out).mono ?_); rintro e w2 ⟨rfl, hd2⟩; have hb2 := level_Explicit.drawn_below hd2; have n0_ := Aside0.mk (level_Explicit.rows_below HR.out hb2); have n1_ := Aside0.mk (below_step HB.out hb2); have n2_ := Aside0.mk (level_Explicit.atS_below HA.out hb2); clear HA HR HB hb2 hd2; have HA := n2_; have HR := n0_; have HB := n1_; clear n0_ n1_ n2_) | ((with_reducible refine gate_builtin (b := .append) (xs := #[.tmp 105, .tmp 107]) rfl ?_); at_builtin; refine Kd.R_append (Kd.int .i64) (w0 := w) w.heap.size rfl (.tmp 105) (.tmp 107) 22 3 (.int .i64 0) 8 rfl Try.underlying22 info3 rfl (by decide) (by omega) u4 ls (-1) [.int .i64 (-1)] (fun _ => True) (fun _ => False) rfl rfl ?aP (fun _ hk => hk.elim) (fun _ _ => trivial) ?aO ?aB ?aS ?aL ?_; (case aP => exact rfl); (case aO => exact HR.out.l); (case aB => exact HB.out); (case aS => exact HB.out.size); (case aL => have := HN.out; have := HE.out; omega); intro v9 w9 ho hb hgr hat; have n0_ := Aside0.mk (level_Explicit.rows_l HR.out ho hgr hat); have n1_ := Aside0.mk (level_Explicit.at_grown HA.out HR.out.l hgr); clear HA HR HB; have HA := n1_; have HR := n0_; have HB := Aside0.mk hb; clear n0_ n1_ ho hb hgr hat) | ((with_reducible refine gate_builtin (b := .append) (xs := #[.tmp 109, .tmp 111]) rfl ?_); at_builtin; refine Kd.R_append (Kd.int .i64) (w0 := w) w.heap.size rfl (.tmp 109) (.tmp 111) 22 3 (.int .i64 0) 8 rfl Try.underlying22 info3 rfl (by decide) (by omega) u5 ts (16) [.int .i64 (16)] (fun _ => True) (fun _ => False) rfl rfl ?aP (fun _ hk => hk.elim) (fun _ _ => trivial) ?aO ?aB ?aS ?aL ?_; (case aP => exact rfl); (case aO => exact HR.out.t); (case aB => exact HB.out); (case aS => exact HB.out.size); (case aL => have := HN.out; have := HE.out; omega); intro v9 w9 ho hb hgr hat; have n0_ := Aside0.mk (level_Explicit.rows_t HR.out ho hgr hat); have n1_ := Aside0.mk (level_Explicit.at_grown HA.out HR.out.t hgr); clear HA HR HB; have HA := n1_; have HR := n0_; have HB := Aside0.mk hb; clear n0_ n1_ ho hb hgr hat))
         go_roundg k1
         case measure => exact Nat.lt_succ_self _
         case rel => exact ⟨_, _, _, level_Explicit.emb s 1 (-1), ls ++ [-1], ts ++ [16], rfl, rfl, (by rw [HW2.out, List.length_append]; rfl), HH, ⟨by rw [List.length_append, List.length_append, HE.out]; rfl⟩, HA, HR, HB⟩
        ·
         have d16b : (c == 16) = false := beq_eq_false_iff_ne.2 d16
         by_cases d14 : c = 14
         ·
          subst d14
          obtain rfl : level_Explicit.emb s 0 (-1) = s' := Option.some.inj hs'
          obtain rfl : true = rm := Option.some.inj hrm
          have HM := Aside0.mk hrm
          have HH := Aside0.mk (show level_Explicit.lp k k1 l0 m 1 (level_Explicit.emb s 0 (-1)) (ls ++ [-1]) (ts ++ [14]) = some (r1, r2) from H)
          have HG1 := Aside0.mk c2h
          clear H hs' hrm c2h
          go_wp2_with (first | (go_at_call 30; refine (level_Explicit.lastS HA.out HG.out).mono ?_; rintro e w2 ⟨rfl, hb2⟩; have n0_ := Aside0.mk (level_Explicit.rows_below HR.out hb2); have n1_ := Aside0.mk (below_step HB.out hb2); have n2_ := Aside0.mk (level_Explicit.atS_below HA.out hb2); clear HA HR HB hb2; have HA := n2_; have HR := n0_; have HB := n1_; clear n0_ n1_ n2_) | (go_at_call 31; refine (level_Explicit.embS HA.out HG.out 0 (-1)).mono ?_; rintro e w2 ⟨rfl, v2, ha2, hk2⟩; have n0_ := Aside0.mk (level_Explicit.rows_kp HR.out HA.out hk2); have n1_ := Aside0.mk (HB.out.trans hk2.1); clear HA HR HB; have HA := Aside0.mk ha2; have HR := n0_; have HB := n1_; clear n0_ n1_ ha2 hk2) | (go_at_call 14; (with_reducible refine (level_Removed.calls _ _ _ HM.out).mono ?_); rintro e w2 ⟨rfl, hd2⟩; have hb2 := level_Explicit.drawn_below hd2; have n0_ := Aside0.mk (level_Explicit.rows_below HR.out hb2); have n1_ := Aside0.mk (below_step HB.out hb2); have n2_ := Aside0.mk (level_Explicit.atS_below HA.out hb2); clear HA HR HB hb2 hd2; have HA := n2_; have HR := n0_; have HB := n1_; clear n0_ n1_ n2_) | ((with_reducible refine gate_builtin (b := .append) (xs := #[.tmp 105, .tmp 107]) rfl ?_); at_builtin; refine Kd.R_append (Kd.int .i64) (w0 := w) w.heap.size rfl (.tmp 105) (.tmp 107) 22 3 (.int .i64 0) 8 rfl Try.underlying22 info3 rfl (by decide) (by omega) u4 ls (-1) [.int .i64 (-1)] (fun _ => True) (fun _ => False) rfl rfl ?aP (fun _ hk => hk.elim) (fun _ _ => trivial) ?aO ?aB ?aS ?aL ?_; (case aP => exact rfl); (case aO => exact HR.out.l); (case aB => exact HB.out); (case aS => exact HB.out.size); (case aL => have := HN.out; have := HE.out; omega); intro v9 w9 ho hb hgr hat; have n0_ := Aside0.mk (level_Explicit.rows_l HR.out ho hgr hat); have n1_ := Aside0.mk (level_Explicit.at_grown HA.out HR.out.l hgr); clear HA HR HB; have HA := n1_; have HR := n0_; have HB := Aside0.mk hb; clear n0_ n1_ ho hb hgr hat) | ((with_reducible refine gate_builtin (b := .append) (xs := #[.tmp 109, .tmp 111]) rfl ?_); at_builtin; refine Kd.R_append (Kd.int .i64) (w0 := w) w.heap.size rfl (.tmp 109) (.tmp 111) 22 3 (.int .i64 0) 8 rfl Try.underlying22 info3 rfl (by decide) (by omega) u5 ts (14) [.int .i64 (14)] (fun _ => True) (fun _ => False) rfl rfl ?aP (fun _ hk => hk.elim) (fun _ _ => trivial) ?aO ?aB ?aS ?aL ?_; (case aP => exact rfl); (case aO => exact HR.out.t); (case aB => exact HB.out); (case aS => exact HB.out.size); (case aL => have := HN.out; have := HE.out; omega); intro v9 w9 ho hb hgr hat; have n0_ := Aside0.mk (level_Explicit.rows_t HR.out ho hgr hat); have n1_ := Aside0.mk (level_Explicit.at_grown HA.out HR.out.t hgr); clear HA HR HB; have HA := n1_; have HR := n0_; have HB := Aside0.mk hb; clear n0_ n1_ ho hb hgr hat))
          go_roundg k1
          case measure => exact Nat.lt_succ_self _
          case rel => exact ⟨_, _, _, level_Explicit.emb s 0 (-1), ls ++ [-1], ts ++ [14], rfl, rfl, (by rw [HW2.out, List.length_append]; rfl), HH, ⟨by rw [List.length_append, List.length_append, HE.out]; rfl⟩, HA, HR, HB⟩
         ·
          have d14b : (c == 14) = false := beq_eq_false_iff_ne.2 d14
          by_cases d17 : c = 17
          ·
           subst d17
           obtain rfl : level_Explicit.emb s 1 1 = s' := Option.some.inj hs'
           obtain rfl : true = rm := Option.some.inj hrm
           have HM := Aside0.mk hrm
           have HH := Aside0.mk (show level_Explicit.lp k k1 l0 m 1 (level_Explicit.emb s 1 1) (ls ++ [-1]) (ts ++ [17]) = some (r1, r2) from H)
           have HG1 := Aside0.mk c2h
           clear H hs' hrm c2h
           go_wp2_with (first | (go_at_call 30; refine (level_Explicit.lastS HA.out HG.out).mono ?_; rintro e w2 ⟨rfl, hb2⟩; have n0_ := Aside0.mk (level_Explicit.rows_below HR.out hb2); have n1_ := Aside0.mk (below_step HB.out hb2); have n2_ := Aside0.mk (level_Explicit.atS_below HA.out hb2); clear HA HR HB hb2; have HA := n2_; have HR := n0_; have HB := n1_; clear n0_ n1_ n2_) | (go_at_call 31; refine (level_Explicit.embS HA.out HG.out 1 1).mono ?_; rintro e w2 ⟨rfl, v2, ha2, hk2⟩; have n0_ := Aside0.mk (level_Explicit.rows_kp HR.out HA.out hk2); have n1_ := Aside0.mk (HB.out.trans hk2.1); clear HA HR HB; have HA := Aside0.mk ha2; have HR := n0_; have HB := n1_; clear n0_ n1_ ha2 hk2) | (go_at_call 14; (with_reducible refine (level_Removed.calls _ _ _ HM.out).mono ?_); rintro e w2 ⟨rfl, hd2⟩; have hb2 := level_Explicit.drawn_below hd2; have n0_ := Aside0.mk (level_Explicit.rows_below HR.out hb2); have n1_ := Aside0.mk (below_step HB.out hb2); have n2_ := Aside0.mk (level_Explicit.atS_below HA.out hb2); clear HA HR HB hb2 hd2; have HA := n2_; have HR := n0_; have HB := n1_; clear n0_ n1_ n2_) | ((with_reducible refine gate_builtin (b := .append) (xs := #[.tmp 105, .tmp 107]) rfl ?_); at_builtin; refine Kd.R_append (Kd.int .i64) (w0 := w) w.heap.size rfl (.tmp 105) (.tmp 107) 22 3 (.int .i64 0) 8 rfl Try.underlying22 info3 rfl (by decide) (by omega) u4 ls (-1) [.int .i64 (-1)] (fun _ => True) (fun _ => False) rfl rfl ?aP (fun _ hk => hk.elim) (fun _ _ => trivial) ?aO ?aB ?aS ?aL ?_; (case aP => exact rfl); (case aO => exact HR.out.l); (case aB => exact HB.out); (case aS => exact HB.out.size); (case aL => have := HN.out; have := HE.out; omega); intro v9 w9 ho hb hgr hat; have n0_ := Aside0.mk (level_Explicit.rows_l HR.out ho hgr hat); have n1_ := Aside0.mk (level_Explicit.at_grown HA.out HR.out.l hgr); clear HA HR HB; have HA := n1_; have HR := n0_; have HB := Aside0.mk hb; clear n0_ n1_ ho hb hgr hat) | ((with_reducible refine gate_builtin (b := .append) (xs := #[.tmp 109, .tmp 111]) rfl ?_); at_builtin; refine Kd.R_append (Kd.int .i64) (w0 := w) w.heap.size rfl (.tmp 109) (.tmp 111) 22 3 (.int .i64 0) 8 rfl Try.underlying22 info3 rfl (by decide) (by omega) u5 ts (17) [.int .i64 (17)] (fun _ => True) (fun _ => False) rfl rfl ?aP (fun _ hk => hk.elim) (fun _ _ => trivial) ?aO ?aB ?aS ?aL ?_; (case aP => exact rfl); (case aO => exact HR.out.t); (case aB => exact HB.out); (case aS => exact HB.out.size); (case aL => have := HN.out; have := HE.out; omega); intro v9 w9 ho hb hgr hat; have n0_ := Aside0.mk (level_Explicit.rows_t HR.out ho hgr hat); have n1_ := Aside0.mk (level_Explicit.at_grown HA.out HR.out.t hgr); clear HA HR HB; have HA := n1_; have HR := n0_; have HB := Aside0.mk hb; clear n0_ n1_ ho hb hgr hat))
           go_roundg k1
           case measure => exact Nat.lt_succ_self _
           case rel => exact ⟨_, _, _, level_Explicit.emb s 1 1, ls ++ [-1], ts ++ [17], rfl, rfl, (by rw [HW2.out, List.length_append]; rfl), HH, ⟨by rw [List.length_append, List.length_append, HE.out]; rfl⟩, HA, HR, HB⟩
          ·
           have d17b : (c == 17) = false := beq_eq_false_iff_ne.2 d17
           by_cases d15 : c = 15
           ·
            subst d15
            obtain rfl : level_Explicit.emb s 0 0 = s' := Option.some.inj hs'
            obtain rfl : true = rm := Option.some.inj hrm
            have HM := Aside0.mk hrm
            have HH := Aside0.mk (show level_Explicit.lp k k1 l0 m 1 (level_Explicit.emb s 0 0) (ls ++ [-1]) (ts ++ [15]) = some (r1, r2) from H)
            have HG1 := Aside0.mk c2h
            clear H hs' hrm c2h
            go_wp2_with (first | (go_at_call 30; refine (level_Explicit.lastS HA.out HG.out).mono ?_; rintro e w2 ⟨rfl, hb2⟩; have n0_ := Aside0.mk (level_Explicit.rows_below HR.out hb2); have n1_ := Aside0.mk (below_step HB.out hb2); have n2_ := Aside0.mk (level_Explicit.atS_below HA.out hb2); clear HA HR HB hb2; have HA := n2_; have HR := n0_; have HB := n1_; clear n0_ n1_ n2_) | (go_at_call 31; refine (level_Explicit.embS HA.out HG.out 0 0).mono ?_; rintro e w2 ⟨rfl, v2, ha2, hk2⟩; have n0_ := Aside0.mk (level_Explicit.rows_kp HR.out HA.out hk2); have n1_ := Aside0.mk (HB.out.trans hk2.1); clear HA HR HB; have HA := Aside0.mk ha2; have HR := n0_; have HB := n1_; clear n0_ n1_ ha2 hk2) | (go_at_call 14; (with_reducible refine (level_Removed.calls _ _ _ HM.out).mono ?_); rintro e w2 ⟨rfl, hd2⟩; have hb2 := level_Explicit.drawn_below hd2; have n0_ := Aside0.mk (level_Explicit.rows_below HR.out hb2); have n1_ := Aside0.mk (below_step HB.out hb2); have n2_ := Aside0.mk (level_Explicit.atS_below HA.out hb2); clear HA HR HB hb2 hd2; have HA := n2_; have HR := n0_; have HB := n1_; clear n0_ n1_ n2_) | ((with_reducible refine gate_builtin (b := .append) (xs := #[.tmp 105, .tmp 107]) rfl ?_); at_builtin; refine Kd.R_append (Kd.int .i64) (w0 := w) w.heap.size rfl (.tmp 105) (.tmp 107) 22 3 (.int .i64 0) 8 rfl Try.underlying22 info3 rfl (by decide) (by omega) u4 ls (-1) [.int .i64 (-1)] (fun _ => True) (fun _ => False) rfl rfl ?aP (fun _ hk => hk.elim) (fun _ _ => trivial) ?aO ?aB ?aS ?aL ?_; (case aP => exact rfl); (case aO => exact HR.out.l); (case aB => exact HB.out); (case aS => exact HB.out.size); (case aL => have := HN.out; have := HE.out; omega); intro v9 w9 ho hb hgr hat; have n0_ := Aside0.mk (level_Explicit.rows_l HR.out ho hgr hat); have n1_ := Aside0.mk (level_Explicit.at_grown HA.out HR.out.l hgr); clear HA HR HB; have HA := n1_; have HR := n0_; have HB := Aside0.mk hb; clear n0_ n1_ ho hb hgr hat) | ((with_reducible refine gate_builtin (b := .append) (xs := #[.tmp 109, .tmp 111]) rfl ?_); at_builtin; refine Kd.R_append (Kd.int .i64) (w0 := w) w.heap.size rfl (.tmp 109) (.tmp 111) 22 3 (.int .i64 0) 8 rfl Try.underlying22 info3 rfl (by decide) (by omega) u5 ts (15) [.int .i64 (15)] (fun _ => True) (fun _ => False) rfl rfl ?aP (fun _ hk => hk.elim) (fun _ _ => trivial) ?aO ?aB ?aS ?aL ?_; (case aP => exact rfl); (case aO => exact HR.out.t); (case aB => exact HB.out); (case aS => exact HB.out.size); (case aL => have := HN.out; have := HE.out; omega); intro v9 w9 ho hb hgr hat; have n0_ := Aside0.mk (level_Explicit.rows_t HR.out ho hgr hat); have n1_ := Aside0.mk (level_Explicit.at_grown HA.out HR.out.t hgr); clear HA HR HB; have HA := n1_; have HR := n0_; have HB := Aside0.mk hb; clear n0_ n1_ ho hb hgr hat))
            go_roundg k1
            case measure => exact Nat.lt_succ_self _
            case rel => exact ⟨_, _, _, level_Explicit.emb s 0 0, ls ++ [-1], ts ++ [15], rfl, rfl, (by rw [HW2.out, List.length_append]; rfl), HH, ⟨by rw [List.length_append, List.length_append, HE.out]; rfl⟩, HA, HR, HB⟩
           ·
            have d15b : (c == 15) = false := beq_eq_false_iff_ne.2 d15
            by_cases d18 : c = 18
            ·
             subst d18
             obtain rfl : level_Explicit.pdf s = s' := Option.some.inj hs'
             obtain rfl : true = rm := Option.some.inj hrm
             have HM := Aside0.mk hrm
             have HH := Aside0.mk (show level_Explicit.lp k k1 l0 m 1 (level_Explicit.pdf s) (ls ++ [-1]) (ts ++ [18]) = some (r1, r2) from H)
             have HG1 := Aside0.mk c2h
             clear H hs' hrm c2h
             go_wp2_with (first | (go_at_call 30; refine (level_Explicit.lastS HA.out HG.out).mono ?_; rintro e w2 ⟨rfl, hb2⟩; have n0_ := Aside0.mk (level_Explicit.rows_below HR.out hb2); have n1_ := Aside0.mk (below_step HB.out hb2); have n2_ := Aside0.mk (level_Explicit.atS_below HA.out hb2); clear HA HR HB hb2; have HA := n2_; have HR := n0_; have HB := n1_; clear n0_ n1_ n2_) | (go_at_call 32; refine (level_Explicit.pdfS HA.out HG.out).mono ?_; rintro e w2 ⟨rfl, v2, ha2, hk2⟩; have n0_ := Aside0.mk (level_Explicit.rows_kp HR.out HA.out hk2); have n1_ := Aside0.mk (HB.out.trans hk2.1); clear HA HR HB; have HA := Aside0.mk ha2; have HR := n0_; have HB := n1_; clear n0_ n1_ ha2 hk2) | (go_at_call 14; (with_reducible refine (level_Removed.calls _ _ _ HM.out).mono ?_); rintro e w2 ⟨rfl, hd2⟩; have hb2 := level_Explicit.drawn_below hd2; have n0_ := Aside0.mk (level_Explicit.rows_below HR.out hb2); have n1_ := Aside0.mk (below_step HB.out hb2); have n2_ := Aside0.mk (level_Explicit.atS_below HA.out hb2); clear HA HR HB hb2 hd2; have HA := n2_; have HR := n0_; have HB := n1_; clear n0_ n1_ n2_) | ((with_reducible refine gate_builtin (b := .append) (xs := #[.tmp 105, .tmp 107]) rfl ?_); at_builtin; refine Kd.R_append (Kd.int .i64) (w0 := w) w.heap.size rfl (.tmp 105) (.tmp 107) 22 3 (.int .i64 0) 8 rfl Try.underlying22 info3 rfl (by decide) (by omega) u4 ls (-1) [.int .i64 (-1)] (fun _ => True) (fun _ => False) rfl rfl ?aP (fun _ hk => hk.elim) (fun _ _ => trivial) ?aO ?aB ?aS ?aL ?_; (case aP => exact rfl); (case aO => exact HR.out.l); (case aB => exact HB.out); (case aS => exact HB.out.size); (case aL => have := HN.out; have := HE.out; omega); intro v9 w9 ho hb hgr hat; have n0_ := Aside0.mk (level_Explicit.rows_l HR.out ho hgr hat); have n1_ := Aside0.mk (level_Explicit.at_grown HA.out HR.out.l hgr); clear HA HR HB; have HA := n1_; have HR := n0_; have HB := Aside0.mk hb; clear n0_ n1_ ho hb hgr hat) | ((with_reducible refine gate_builtin (b := .append) (xs := #[.tmp 109, .tmp 111]) rfl ?_); at_builtin; refine Kd.R_append (Kd.int .i64) (w0 := w) w.heap.size rfl (.tmp 109) (.tmp 111) 22 3 (.int .i64 0) 8 rfl Try.underlying22 info3 rfl (by decide) (by omega) u5 ts (18) [.int .i64 (18)] (fun _ => True) (fun _ => False) rfl rfl ?aP (fun _ hk => hk.elim) (fun _ _ => trivial) ?aO ?aB ?aS ?aL ?_; (case aP => exact rfl); (case aO => exact HR.out.t); (case aB => exact HB.out); (case aS => exact HB.out.size); (case aL => have := HN.out; have := HE.out; omega); intro v9 w9 ho hb hgr hat; have n0_ := Aside0.mk (level_Explicit.rows_t HR.out ho hgr hat); have n1_ := Aside0.mk (level_Explicit.at_grown HA.out HR.out.t hgr); clear HA HR HB; have HA := n1_; have HR := n0_; have HB := Aside0.mk hb; clear n0_ n1_ ho hb hgr hat))
             go_roundg k1
             case measure => exact Nat.lt_succ_self _
             case rel => exact ⟨_, _, _, level_Explicit.pdf s, ls ++ [-1], ts ++ [18], rfl, rfl, (by rw [HW2.out, List.length_append]; rfl), HH, ⟨by rw [List.length_append, List.length_append, HE.out]; rfl⟩, HA, HR, HB⟩
            ·
             have d18b : (c == 18) = false := beq_eq_false_iff_ne.2 d18
             by_cases d22 : c = 22
             ·
              subst d22
              have c2h : level_Explicit.gd (level_Explicit.pdi s) = true := c2h
              obtain rfl : level_Explicit.pdi s = s' := Option.some.inj hs'
              obtain rfl : false = rm := Option.some.inj hrm
              have HM := Aside0.mk hrm
              have HH := Aside0.mk (show level_Explicit.lp k k1 l0 m 1 (level_Explicit.pdi s) (ls ++ [(level_Explicit.top (level_Explicit.pdi s)).f0]) (ts ++ [level_Explicit.see (level_Explicit.pdi s) 22]) = some (r1, r2) from H)
              have HG1 := Aside0.mk c2h
              clear H hs' hrm c2h
              go_wp2_with (first | (go_at_call 30; refine (level_Explicit.lastS HA.out HG.out).mono ?_; rintro e w2 ⟨rfl, hb2⟩; have n0_ := Aside0.mk (level_Explicit.rows_below HR.out hb2); have n1_ := Aside0.mk (below_step HB.out hb2); have n2_ := Aside0.mk (level_Explicit.atS_below HA.out hb2); clear HA HR HB hb2; have HA := n2_; have HR := n0_; have HB := n1_; clear n0_ n1_ n2_) | (go_at_call 30; refine (level_Explicit.lastS HA.out HG1.out).mono ?_; rintro e w2 ⟨rfl, hb2⟩; have n0_ := Aside0.mk (level_Explicit.rows_below HR.out hb2); have n1_ := Aside0.mk (below_step HB.out hb2); have n2_ := Aside0.mk (level_Explicit.atS_below HA.out hb2); clear HA HR HB hb2; have HA := n2_; have HR := n0_; have HB := n1_; clear n0_ n1_ n2_) | (go_at_call 33; refine (level_Explicit.pdiS HA.out HG.out).mono ?_; rintro e w2 ⟨rfl, v2, ha2, hk2⟩; have n0_ := Aside0.mk (level_Explicit.rows_kp HR.out HA.out hk2); have n1_ := Aside0.mk (HB.out.trans hk2.1); clear HA HR HB; have HA := Aside0.mk ha2; have HR := n0_; have HB := n1_; clear n0_ n1_ ha2 hk2) | (go_at_call 34; refine (level_Explicit.seeS HA.out HG1.out _).mono ?_; rintro e w2 ⟨rfl, hb2⟩; have n0_ := Aside0.mk (level_Explicit.rows_below HR.out hb2); have n1_ := Aside0.mk (below_step HB.out hb2); have n2_ := Aside0.mk (level_Explicit.atS_below HA.out hb2); clear HA HR HB hb2; have HA := n2_; have HR := n0_; have HB := n1_; clear n0_ n1_ n2_) | (go_at_call 14; (with_reducible refine (level_Removed.calls _ _ _ HM.out).mono ?_); rintro e w2 ⟨rfl, hd2⟩; have hb2 := level_Explicit.drawn_below hd2; have n0_ := Aside0.mk (level_Explicit.rows_below HR.out hb2); have n1_ := Aside0.mk (below_step HB.out hb2); have n2_ := Aside0.mk (level_Explicit.atS_below HA.out hb2); clear HA HR HB hb2 hd2; have HA := n2_; have HR := n0_; have HB := n1_; clear n0_ n1_ n2_) | ((with_reducible refine gate_builtin (b := .append) (xs := #[.tmp 105, .tmp 107]) rfl ?_); at_builtin; refine Kd.R_append (Kd.int .i64) (w0 := w) w.heap.size rfl (.tmp 105) (.tmp 107) 22 3 (.int .i64 0) 8 rfl Try.underlying22 info3 rfl (by decide) (by omega) u4 ls ((level_Explicit.top (level_Explicit.pdi s)).f0) [.int .i64 ((level_Explicit.top (level_Explicit.pdi s)).f0)] (fun _ => True) (fun _ => False) rfl rfl ?aP (fun _ hk => hk.elim) (fun _ _ => trivial) ?aO ?aB ?aS ?aL ?_; (case aP => exact rfl); (case aO => exact HR.out.l); (case aB => exact HB.out); (case aS => exact HB.out.size); (case aL => have := HN.out; have := HE.out; omega); intro v9 w9 ho hb hgr hat; have n0_ := Aside0.mk (level_Explicit.rows_l HR.out ho hgr hat); have n1_ := Aside0.mk (level_Explicit.at_grown HA.out HR.out.l hgr); clear HA HR HB; have HA := n1_; have HR := n0_; have HB := Aside0.mk hb; clear n0_ n1_ ho hb hgr hat) | ((with_reducible refine gate_builtin (b := .append) (xs := #[.tmp 109, .tmp 111]) rfl ?_); at_builtin; refine Kd.R_append (Kd.int .i64) (w0 := w) w.heap.size rfl (.tmp 109) (.tmp 111) 22 3 (.int .i64 0) 8 rfl Try.underlying22 info3 rfl (by decide) (by omega) u5 ts (level_Explicit.see (level_Explicit.pdi s) 22) [.int .i64 (level_Explicit.see (level_Explicit.pdi s) 22)] (fun _ => True) (fun _ => False) rfl rfl ?aP (fun _ hk => hk.elim) (fun _ _ => trivial) ?aO ?aB ?aS ?aL ?_; (case aP => exact rfl); (case aO => exact HR.out.t); (case aB => exact HB.out); (case aS => exact HB.out.size); (case aL => have := HN.out; have := HE.out; omega); intro v9 w9 ho hb hgr hat; have n0_ := Aside0.mk (level_Explicit.rows_t HR.out ho hgr hat); have n1_ := Aside0.mk (level_Explicit.at_grown HA.out HR.out.t hgr); clear HA HR HB; have HA := n1_; have HR := n0_; have HB := Aside0.mk hb; clear n0_ n1_ ho hb hgr hat))
              go_roundg k1
              case measure => exact Nat.lt_succ_self _
              case rel => exact ⟨_, _, _, level_Explicit.pdi s, ls ++ [(level_Explicit.top (level_Explicit.pdi s)).f0], ts ++ [level_Explicit.see (level_Explicit.pdi s) 22], rfl, rfl, (by rw [HW2.out, List.length_append]; rfl), HH, ⟨by rw [List.length_append, List.length_append, HE.out]; rfl⟩, HA, HR, HB⟩
             ·
              have d22b : (c == 22) = false := beq_eq_false_iff_ne.2 d22
              by_cases d9 : c = 9
              ·
               subst d9
               obtain rfl : s = s' := Option.some.inj hs'
               obtain rfl : true = rm := Option.some.inj hrm
               have HM := Aside0.mk hrm
               have HH := Aside0.mk (show level_Explicit.lp k k1 l0 m 1 (s) (ls ++ [-1]) (ts ++ [9]) = some (r1, r2) from H)
               have HG1 := Aside0.mk c2h
               clear H hs' hrm c2h
               go_wp2_with (first | (go_at_call 30; refine (level_Explicit.lastS HA.out HG.out).mono ?_; rintro e w2 ⟨rfl, hb2⟩; have n0_ := Aside0.mk (level_Explicit.rows_below HR.out hb2); have n1_ := Aside0.mk (below_step HB.out hb2); have n2_ := Aside0.mk (level_Explicit.atS_below HA.out hb2); clear HA HR HB hb2; have HA := n2_; have HR := n0_; have HB := n1_; clear n0_ n1_ n2_) | (go_at_call 14; (with_reducible refine (level_Removed.calls _ _ _ HM.out).mono ?_); rintro e w2 ⟨rfl, hd2⟩; have hb2 := level_Explicit.drawn_below hd2; have n0_ := Aside0.mk (level_Explicit.rows_below HR.out hb2); have n1_ := Aside0.mk (below_step HB.out hb2); have n2_ := Aside0.mk (level_Explicit.atS_below HA.out hb2); clear HA HR HB hb2 hd2; have HA := n2_; have HR := n0_; have HB := n1_; clear n0_ n1_ n2_) | ((with_reducible refine gate_builtin (b := .append) (xs := #[.tmp 105, .tmp 107]) rfl ?_); at_builtin; refine Kd.R_append (Kd.int .i64) (w0 := w) w.heap.size rfl (.tmp 105) (.tmp 107) 22 3 (.int .i64 0) 8 rfl Try.underlying22 info3 rfl (by decide) (by omega) u4 ls (-1) [.int .i64 (-1)] (fun _ => True) (fun _ => False) rfl rfl ?aP (fun _ hk => hk.elim) (fun _ _ => trivial) ?aO ?aB ?aS ?aL ?_; (case aP => exact rfl); (case aO => exact HR.out.l); (case aB => exact HB.out); (case aS => exact HB.out.size); (case aL => have := HN.out; have := HE.out; omega); intro v9 w9 ho hb hgr hat; have n0_ := Aside0.mk (level_Explicit.rows_l HR.out ho hgr hat); have n1_ := Aside0.mk (level_Explicit.at_grown HA.out HR.out.l hgr); clear HA HR HB; have HA := n1_; have HR := n0_; have HB := Aside0.mk hb; clear n0_ n1_ ho hb hgr hat) | ((with_reducible refine gate_builtin (b := .append) (xs := #[.tmp 109, .tmp 111]) rfl ?_); at_builtin; refine Kd.R_append (Kd.int .i64) (w0 := w) w.heap.size rfl (.tmp 109) (.tmp 111) 22 3 (.int .i64 0) 8 rfl Try.underlying22 info3 rfl (by decide) (by omega) u5 ts (9) [.int .i64 (9)] (fun _ => True) (fun _ => False) rfl rfl ?aP (fun _ hk => hk.elim) (fun _ _ => trivial) ?aO ?aB ?aS ?aL ?_; (case aP => exact rfl); (case aO => exact HR.out.t); (case aB => exact HB.out); (case aS => exact HB.out.size); (case aL => have := HN.out; have := HE.out; omega); intro v9 w9 ho hb hgr hat; have n0_ := Aside0.mk (level_Explicit.rows_t HR.out ho hgr hat); have n1_ := Aside0.mk (level_Explicit.at_grown HA.out HR.out.t hgr); clear HA HR HB; have HA := n1_; have HR := n0_; have HB := Aside0.mk hb; clear n0_ n1_ ho hb hgr hat))
               go_roundg k1
               case measure => exact Nat.lt_succ_self _
               case rel => exact ⟨_, _, _, s, ls ++ [-1], ts ++ [9], rfl, rfl, (by rw [HW2.out, List.length_append]; rfl), HH, ⟨by rw [List.length_append, List.length_append, HE.out]; rfl⟩, HA, HR, HB⟩
              ·
               have d9b : (c == 9) = false := beq_eq_false_iff_ne.2 d9
               by_cases d20 : c = 20
               ·
                subst d20
                obtain rfl : level_Explicit.iso s 1 = s' := Option.some.inj hs'
                obtain rfl : false = rm := Option.some.inj hrm
                have HM := Aside0.mk hrm
                have HH := Aside0.mk (show level_Explicit.lp k k1 l0 m 1 (level_Explicit.iso s 1) (ls ++ [(level_Explicit.top s).f0]) (ts ++ [level_Explicit.see s 20]) = some (r1, r2) from H)
                have HG1 := Aside0.mk c2h
                clear H hs' hrm c2h
                go_wp2_with (first | (go_at_call 30; refine (level_Explicit.lastS HA.out HG.out).mono ?_; rintro e w2 ⟨rfl, hb2⟩; have n0_ := Aside0.mk (level_Explicit.rows_below HR.out hb2); have n1_ := Aside0.mk (below_step HB.out hb2); have n2_ := Aside0.mk (level_Explicit.atS_below HA.out hb2); clear HA HR HB hb2; have HA := n2_; have HR := n0_; have HB := n1_; clear n0_ n1_ n2_) | (go_at_call 34; refine (level_Explicit.seeS HA.out HG.out _).mono ?_; rintro e w2 ⟨rfl, hb2⟩; have n0_ := Aside0.mk (level_Explicit.rows_below HR.out hb2); have n1_ := Aside0.mk (below_step HB.out hb2); have n2_ := Aside0.mk (level_Explicit.atS_below HA.out hb2); clear HA HR HB hb2; have HA := n2_; have HR := n0_; have HB := n1_; clear n0_ n1_ n2_) | (go_at_call 35; refine (level_Explicit.isoS HA.out HG.out 1).mono ?_; rintro e w2 ⟨rfl, v2, ha2, hk2⟩; have n0_ := Aside0.mk (level_Explicit.rows_kp HR.out HA.out hk2); have n1_ := Aside0.mk (HB.out.trans hk2.1); clear HA HR HB; have HA := Aside0.mk ha2; have HR := n0_; have HB := n1_; clear n0_ n1_ ha2 hk2) | (go_at_call 14; (with_reducible refine (level_Removed.calls _ _ _ HM.out).mono ?_); rintro e w2 ⟨rfl, hd2⟩; have hb2 := level_Explicit.drawn_below hd2; have n0_ := Aside0.mk (level_Explicit.rows_below HR.out hb2); have n1_ := Aside0.mk (below_step HB.out hb2); have n2_ := Aside0.mk (level_Explicit.atS_below HA.out hb2); clear HA HR HB hb2 hd2; have HA := n2_; have HR := n0_; have HB := n1_; clear n0_ n1_ n2_) | ((with_reducible refine gate_builtin (b := .append) (xs := #[.tmp 105, .tmp 107]) rfl ?_); at_builtin; refine Kd.R_append (Kd.int .i64) (w0 := w) w.heap.size rfl (.tmp 105) (.tmp 107) 22 3 (.int .i64 0) 8 rfl Try.underlying22 info3 rfl (by decide) (by omega) u4 ls ((level_Explicit.top s).f0) [.int .i64 ((level_Explicit.top s).f0)] (fun _ => True) (fun _ => False) rfl rfl ?aP (fun _ hk => hk.elim) (fun _ _ => trivial) ?aO ?aB ?aS ?aL ?_; (case aP => exact rfl); (case aO => exact HR.out.l); (case aB => exact HB.out); (case aS => exact HB.out.size); (case aL => have := HN.out; have := HE.out; omega); intro v9 w9 ho hb hgr hat; have n0_ := Aside0.mk (level_Explicit.rows_l HR.out ho hgr hat); have n1_ := Aside0.mk (level_Explicit.at_grown HA.out HR.out.l hgr); clear HA HR HB; have HA := n1_; have HR := n0_; have HB := Aside0.mk hb; clear n0_ n1_ ho hb hgr hat) | ((with_reducible refine gate_builtin (b := .append) (xs := #[.tmp 109, .tmp 111]) rfl ?_); at_builtin; refine Kd.R_append (Kd.int .i64) (w0 := w) w.heap.size rfl (.tmp 109) (.tmp 111) 22 3 (.int .i64 0) 8 rfl Try.underlying22 info3 rfl (by decide) (by omega) u5 ts (level_Explicit.see s 20) [.int .i64 (level_Explicit.see s 20)] (fun _ => True) (fun _ => False) rfl rfl ?aP (fun _ hk => hk.elim) (fun _ _ => trivial) ?aO ?aB ?aS ?aL ?_; (case aP => exact rfl); (case aO => exact HR.out.t); (case aB => exact HB.out); (case aS => exact HB.out.size); (case aL => have := HN.out; have := HE.out; omega); intro v9 w9 ho hb hgr hat; have n0_ := Aside0.mk (level_Explicit.rows_t HR.out ho hgr hat); have n1_ := Aside0.mk (level_Explicit.at_grown HA.out HR.out.t hgr); clear HA HR HB; have HA := n1_; have HR := n0_; have HB := Aside0.mk hb; clear n0_ n1_ ho hb hgr hat))
                go_roundg k1
                case measure => exact Nat.lt_succ_self _
                case rel => exact ⟨_, _, _, level_Explicit.iso s 1, ls ++ [(level_Explicit.top s).f0], ts ++ [level_Explicit.see s 20], rfl, rfl, (by rw [HW2.out, List.length_append]; rfl), HH, ⟨by rw [List.length_append, List.length_append, HE.out]; rfl⟩, HA, HR, HB⟩
               ·
                have d20b : (c == 20) = false := beq_eq_false_iff_ne.2 d20
                by_cases d19 : c = 19
                ·
                 subst d19
                 obtain rfl : level_Explicit.iso s 0 = s' := Option.some.inj hs'
                 obtain rfl : false = rm := Option.some.inj hrm
                 have HM := Aside0.mk hrm
                 have HH := Aside0.mk (show level_Explicit.lp k k1 l0 m 1 (level_Explicit.iso s 0) (ls ++ [(level_Explicit.top s).f0]) (ts ++ [level_Explicit.see s 19]) = some (r1, r2) from H)
                 have HG1 := Aside0.mk c2h
                 clear H hs' hrm c2h
                 go_wp2_with (first | (go_at_call 30; refine (level_Explicit.lastS HA.out HG.out).mono ?_; rintro e w2 ⟨rfl, hb2⟩; have n0_ := Aside0.mk (level_Explicit.rows_below HR.out hb2); have n1_ := Aside0.mk (below_step HB.out hb2); have n2_ := Aside0.mk (level_Explicit.atS_below HA.out hb2); clear HA HR HB hb2; have HA := n2_; have HR := n0_; have HB := n1_; clear n0_ n1_ n2_) | (go_at_call 34; refine (level_Explicit.seeS HA.out HG.out _).mono ?_; rintro e w2 ⟨rfl, hb2⟩; have n0_ := Aside0.mk (level_Explicit.rows_below HR.out hb2); have n1_ := Aside0.mk (below_step HB.out hb2); have n2_ := Aside0.mk (level_Explicit.atS_below HA.out hb2); clear HA HR HB hb2; have HA := n2_; have HR := n0_; have HB := n1_; clear n0_ n1_ n2_) | (go_at_call 35; refine (level_Explicit.isoS HA.out HG.out 0).mono ?_; rintro e w2 ⟨rfl, v2, ha2, hk2⟩; have n0_ := Aside0.mk (level_Explicit.rows_kp HR.out HA.out hk2); have n1_ := Aside0.mk (HB.out.trans hk2.1); clear HA HR HB; have HA := Aside0.mk ha2; have HR := n0_; have HB := n1_; clear n0_ n1_ ha2 hk2) | (go_at_call 14; (with_reducible refine (level_Removed.calls _ _ _ HM.out).mono ?_); rintro e w2 ⟨rfl, hd2⟩; have hb2 := level_Explicit.drawn_below hd2; have n0_ := Aside0.mk (level_Explicit.rows_below HR.out hb2); have n1_ := Aside0.mk (below_step HB.out hb2); have n2_ := Aside0.mk (level_Explicit.atS_below HA.out hb2); clear HA HR HB hb2 hd2; have HA := n2_; have HR := n0_; have HB := n1_; clear n0_ n1_ n2_) | ((with_reducible refine gate_builtin (b := .append) (xs := #[.tmp 105, .tmp 107]) rfl ?_); at_builtin; refine Kd.R_append (Kd.int .i64) (w0 := w) w.heap.size rfl (.tmp 105) (.tmp 107) 22 3 (.int .i64 0) 8 rfl Try.underlying22 info3 rfl (by decide) (by omega) u4 ls ((level_Explicit.top s).f0) [.int .i64 ((level_Explicit.top s).f0)] (fun _ => True) (fun _ => False) rfl rfl ?aP (fun _ hk => hk.elim) (fun _ _ => trivial) ?aO ?aB ?aS ?aL ?_; (case aP => exact rfl); (case aO => exact HR.out.l); (case aB => exact HB.out); (case aS => exact HB.out.size); (case aL => have := HN.out; have := HE.out; omega); intro v9 w9 ho hb hgr hat; have n0_ := Aside0.mk (level_Explicit.rows_l HR.out ho hgr hat); have n1_ := Aside0.mk (level_Explicit.at_grown HA.out HR.out.l hgr); clear HA HR HB; have HA := n1_; have HR := n0_; have HB := Aside0.mk hb; clear n0_ n1_ ho hb hgr hat) | ((with_reducible refine gate_builtin (b := .append) (xs := #[.tmp 109, .tmp 111]) rfl ?_); at_builtin; refine Kd.R_append (Kd.int .i64) (w0 := w) w.heap.size rfl (.tmp 109) (.tmp 111) 22 3 (.int .i64 0) 8 rfl Try.underlying22 info3 rfl (by decide) (by omega) u5 ts (level_Explicit.see s 19) [.int .i64 (level_Explicit.see s 19)] (fun _ => True) (fun _ => False) rfl rfl ?aP (fun _ hk => hk.elim) (fun _ _ => trivial) ?aO ?aB ?aS ?aL ?_; (case aP => exact rfl); (case aO => exact HR.out.t); (case aB => exact HB.out); (case aS => exact HB.out.size); (case aL => have := HN.out; have := HE.out; omega); intro v9 w9 ho hb hgr hat; have n0_ := Aside0.mk (level_Explicit.rows_t HR.out ho hgr hat); have n1_ := Aside0.mk (level_Explicit.at_grown HA.out HR.out.t hgr); clear HA HR HB; have HA := n1_; have HR := n0_; have HB := Aside0.mk hb; clear n0_ n1_ ho hb hgr hat))
                 go_roundg k1
                 case measure => exact Nat.lt_succ_self _
                 case rel => exact ⟨_, _, _, level_Explicit.iso s 0, ls ++ [(level_Explicit.top s).f0], ts ++ [level_Explicit.see s 19], rfl, rfl, (by rw [HW2.out, List.length_append]; rfl), HH, ⟨by rw [List.length_append, List.length_append, HE.out]; rfl⟩, HA, HR, HB⟩
                ·
                 have d19b : (c == 19) = false := beq_eq_false_iff_ne.2 d19
                 by_cases d21 : c = 21
                 ·
                  subst d21
                  have hs2 : (if (ls.length : Int) < m.length ∧ (ls.length : Int) + 1 ≤ rd m (ls.length : Int) ∧ rd m (ls.length : Int) ≤ l0.length then (base_Level.f k ((l0.take (rd m (ls.length : Int)).toNat).drop (ls.length + 1))).bind fun r => some (level_Explicit.iso s r.1) else none) = some s' := hs'
                  clear hs'
                  by_cases e1 : (ls.length : Int) < m.length ∧ (ls.length : Int) + 1 ≤ rd m (ls.length : Int) ∧ rd m (ls.length : Int) ≤ l0.length
                  ·
                   rw [if_pos e1] at hs2
                   obtain ⟨⟨y1, y2⟩, hy, hs3⟩ := Option.bind_eq_some_iff.1 hs2
                   obtain rfl : level_Explicit.iso s y1 = s' := Option.some.inj hs3
                   obtain rfl : false = rm := Option.some.inj hrm
                   have HM := Aside0.mk hrm
                   have HY := Aside0.mk hy
                   have HH := Aside0.mk (show level_Explicit.lp k k1 l0 m 1 (level_Explicit.iso s y1) (ls ++ [(level_Explicit.top s).f0]) (ts ++ [level_Explicit.see s 21]) = some (r1, r2) from H)
                   obtain ⟨g4, c4, rfl, hgb4, hgl4, hty4⟩ := Kd.R_form HR.out.m (by have := e1.1; omega)
                   have HX := Aside0.mk e1
                   obtain ⟨i0, hi0, hz0, hs0, hb0⟩ := info_parts info3
                   have hcut := cut_mid (P := Try.prog) 22 3 .i64 .i64 Try.underlying22 hi0 1 hs0 (some ad) l0.length c0 ((ls.length : Int) + 1) (rd m (ls.length : Int)) (by omega) e1.2.1 e1.2.2 HC0.out
                   have hcm : Kd.C (Kd.int .i64) w (if c0 = ls.length + 1 then (some ad : Option Addr) else (some ad : Option Addr).map (·.add ((ls.length + 1) * 1))) _ _ := Kd.C_mid (lo := ls.length + 1) (hi := (rd m (ls.length : Int)).toNat) HR0.out (by omega) (by omega) HC0.out
                   have e1b : decide ((ls.length : Int) < (m.length : Int)) = true := decide_eq_true e1.1
                   have e1c := eq_true e1.1
                   rw [show ((ls.length : Int) + 1).toNat = ls.length + 1 by omega] at hcut
                   have hlen : ((l0.take (rd m (ls.length : Int)).toNat).drop (ls.length + 1)).length = (rd m (ls.length : Int)).toNat - (ls.length + 1) := by rw [List.length_drop, List.length_take]; omega
                   rw [← hlen] at hcut
                   generalize hseg : (l0.take (rd m (ls.length : Int)).toNat).drop (ls.length + 1) = seg at *
                   generalize (if c0 = ls.length + 1 then (some ad : Option Addr) else (some ad : Option Addr).map (·.add ((ls.length + 1) * 1))) = A2 at hcut hcm
                   have HCM := Aside0.mk hcm
                   have HSC := Aside0.mk (show seg.length ≤ c0 - (ls.length + 1) by have := HC0.out; have := e1.2.2; rw [← hseg, List.length_drop, List.length_take]; omega)
                   generalize c0 - (ls.length + 1) = c2 at *
                   obtain ⟨mi, hmi⟩ : ∃ x, x = rd m (ls.length : Int) := ⟨_, rfl⟩
                   rw [← hmi] at hcut
                   have KM := Aside0.mk hmi
                   clear H hs2 hs3 hrm hmi hcm c2h hy e1 hgb4 hgl4 hty4 hi0 hz0 hs0 hb0 hlen hseg
                   go_wp2_with (first | (go_at_call 30; refine (level_Explicit.lastS HA.out HG.out).mono ?_; rintro e w2 ⟨rfl, hb2⟩; have n0_ := Aside0.mk (level_Explicit.rows_below HR.out hb2); have n1_ := Aside0.mk (below_step HB.out hb2); have n2_ := Aside0.mk (level_Explicit.atS_below HA.out hb2); clear HA HR HB hb2; have HA := n2_; have HR := n0_; have HB := n1_; clear n0_ n1_ n2_) | (go_at_call 34; refine (level_Explicit.seeS HA.out HG.out _).mono ?_; rintro e w2 ⟨rfl, hb2⟩; have n0_ := Aside0.mk (level_Explicit.rows_below HR.out hb2); have n1_ := Aside0.mk (below_step HB.out hb2); have n2_ := Aside0.mk (level_Explicit.atS_below HA.out hb2); clear HA HR HB hb2; have HA := n2_; have HR := n0_; have HB := n1_; clear n0_ n1_ n2_; obtain ⟨hx4, hf4⟩ := Kd.R_celln 0 HR.out.m (ls.length : Int) (by omega) HX.out.1; clear hf4; replace hx4 : w2.cell? ⟨g4, ls.length, none⟩ = some (.int .i64 mi) := hx4.trans (by rw [KM.out]; rfl)) | (go_at_call 36; refine (base_Level.calls k _ _ _ y1 y2 _ (Kd.C_below HCM.out HB.out) HSC.out HY.out).mono ?_; rintro e w2 ⟨rfl, hb2⟩; have n0_ := Aside0.mk (level_Explicit.rows_below HR.out hb2); have n1_ := Aside0.mk (below_step HB.out hb2); have n2_ := Aside0.mk (level_Explicit.atS_below HA.out hb2); clear HA HR HB hb2; have HA := n2_; have HR := n0_; have HB := n1_; clear n0_ n1_ n2_) | (go_at_call 35; refine (level_Explicit.isoS HA.out HG.out y1).mono ?_; rintro e w2 ⟨rfl, v2, ha2, hk2⟩; have n0_ := Aside0.mk (level_Explicit.rows_kp HR.out HA.out hk2); have n1_ := Aside0.mk (HB.out.trans hk2.1); clear HA HR HB; have HA := Aside0.mk ha2; have HR := n0_; have HB := n1_; clear n0_ n1_ ha2 hk2) | (go_at_call 14; (with_reducible refine (level_Removed.calls _ _ _ HM.out).mono ?_); rintro e w2 ⟨rfl, hd2⟩; have hb2 := level_Explicit.drawn_below hd2; have n0_ := Aside0.mk (level_Explicit.rows_below HR.out hb2); have n1_ := Aside0.mk (below_step HB.out hb2); have n2_ := Aside0.mk (level_Explicit.atS_below HA.out hb2); clear HA HR HB hb2 hd2; have HA := n2_; have HR := n0_; have HB := n1_; clear n0_ n1_ n2_) | ((with_reducible refine gate_builtin (b := .append) (xs := #[.tmp 105, .tmp 107]) rfl ?_); at_builtin; refine Kd.R_append (Kd.int .i64) (w0 := w) w.heap.size rfl (.tmp 105) (.tmp 107) 22 3 (.int .i64 0) 8 rfl Try.underlying22 info3 rfl (by decide) (by omega) u4 ls ((level_Explicit.top s).f0) [.int .i64 ((level_Explicit.top s).f0)] (fun _ => True) (fun _ => False) rfl rfl ?aP (fun _ hk => hk.elim) (fun _ _ => trivial) ?aO ?aB ?aS ?aL ?_; (case aP => exact rfl); (case aO => exact HR.out.l); (case aB => exact HB.out); (case aS => exact HB.out.size); (case aL => have := HN.out; have := HE.out; omega); intro v9 w9 ho hb hgr hat; have n0_ := Aside0.mk (level_Explicit.rows_l HR.out ho hgr hat); have n1_ := Aside0.mk (level_Explicit.at_grown HA.out HR.out.l hgr); clear HA HR HB; have HA := n1_; have HR := n0_; have HB := Aside0.mk hb; clear n0_ n1_ ho hb hgr hat) | ((with_reducible refine gate_builtin (b := .append) (xs := #[.tmp 109, .tmp 111]) rfl ?_); at_builtin; refine Kd.R_append (Kd.int .i64) (w0 := w) w.heap.size rfl (.tmp 109) (.tmp 111) 22 3 (.int .i64 0) 8 rfl Try.underlying22 info3 rfl (by decide) (by omega) u5 ts (level_Explicit.see s 21) [.int .i64 (level_Explicit.see s 21)] (fun _ => True) (fun _ => False) rfl rfl ?aP (fun _ hk => hk.elim) (fun _ _ => trivial) ?aO ?aB ?aS ?aL ?_; (case aP => exact rfl); (case aO => exact HR.out.t); (case aB => exact HB.out); (case aS => exact HB.out.size); (case aL => have := HN.out; have := HE.out; omega); intro v9 w9 ho hb hgr hat; have n0_ := Aside0.mk (level_Explicit.rows_t HR.out ho hgr hat); have n1_ := Aside0.mk (level_Explicit.at_grown HA.out HR.out.t hgr); clear HA HR HB; have HA := n1_; have HR := n0_; have HB := Aside0.mk hb; clear n0_ n1_ ho hb hgr hat))
                   go_roundg k1
                   case measure => exact Nat.lt_succ_self _
                   case rel => exact ⟨_, _, _, level_Explicit.iso s y1, ls ++ [(level_Explicit.top s).f0], ts ++ [level_Explicit.see s 21], rfl, rfl, (by rw [HW2.out, List.length_append]; rfl), HH, ⟨by rw [List.length_append, List.length_append, HE.out]; rfl⟩, HA, HR, HB⟩
                  ·
                   rw [if_neg e1] at hs2
                   cases hs2
                 ·
                  have d21b : (c == 21) = false := beq_eq_false_iff_ne.2 d21
                  have e1 : level_Explicit.s1 s c = s := by unfold level_Explicit.s1; rw [if_neg d16, if_neg d14, if_neg d17, if_neg d15, if_neg d18, if_neg d22]
                  have e2 : level_Explicit.s2 k l0 m ls.length c (level_Explicit.s1 s c) = some s := by rw [e1]; unfold level_Explicit.s2; rw [if_neg d20, if_neg d19, if_neg d21]
                  have e3 : level_Removed.f c = some false := by unfold level_Removed.f; rw [if_neg d16, if_neg d14, if_neg d17, if_neg d15, if_neg d18, if_neg d9]
                  have e4 : level_Explicit.at1 1 s c = (level_Explicit.top s).f0 := by unfold level_Explicit.at1; rw [if_neg d10, if_neg d22]
                  have e5 : level_Explicit.as1 s c = level_Explicit.see s c := by unfold level_Explicit.as1; rw [if_neg d10, if_neg d16, if_neg d14, if_neg d17, if_neg d15, if_neg d18, if_neg d22, if_neg d9]
                  obtain rfl : s = s' := Option.some.inj (e2.symm.trans hs')
                  obtain rfl : false = rm := Option.some.inj (e3.symm.trans hrm)
                  rw [e4, e5] at H
                  have HM := Aside0.mk e3
                  have HH := Aside0.mk (show level_Explicit.lp k k1 l0 m 1 s (ls ++ [(level_Explicit.top s).f0]) (ts ++ [level_Explicit.see s c]) = some (r1, r2) from H)
                  clear H hs' hrm c2h e1 e2 e3 e4 e5 d10 d16 d14 d17 d15 d18 d22 d9 d20 d19 d21
                  go_wp2_with (first | (go_at_call 30; refine (level_Explicit.lastS HA.out HG.out).mono ?_; rintro e w2 ⟨rfl, hb2⟩; have n0_ := Aside0.mk (level_Explicit.rows_below HR.out hb2); have n1_ := Aside0.mk (below_step HB.out hb2); have n2_ := Aside0.mk (level_Explicit.atS_below HA.out hb2); clear HA HR HB hb2; have HA := n2_; have HR := n0_; have HB := n1_; clear n0_ n1_ n2_) | (go_at_call 34; refine (level_Explicit.seeS HA.out HG.out _).mono ?_; rintro e w2 ⟨rfl, hb2⟩; have n0_ := Aside0.mk (level_Explicit.rows_below HR.out hb2); have n1_ := Aside0.mk (below_step HB.out hb2); have n2_ := Aside0.mk (level_Explicit.atS_below HA.out hb2); clear HA HR HB hb2; have HA := n2_; have HR := n0_; have HB := n1_; clear n0_ n1_ n2_) | (go_at_call 14; (with_reducible refine (level_Removed.calls _ _ _ HM.out).mono ?_); rintro e w2 ⟨rfl, hd2⟩; have hb2 := level_Explicit.drawn_below hd2; have n0_ := Aside0.mk (level_Explicit.rows_below HR.out hb2); have n1_ := Aside0.mk (below_step HB.out hb2); have n2_ := Aside0.mk (level_Explicit.atS_below HA.out hb2); clear HA HR HB hb2 hd2; have HA := n2_; have HR := n0_; have HB := n1_; clear n0_ n1_ n2_) | ((with_reducible refine gate_builtin (b := .append) (xs := #[.tmp 105, .tmp 107]) rfl ?_); at_builtin; refine Kd.R_append (Kd.int .i64) (w0 := w) w.heap.size rfl (.tmp 105) (.tmp 107) 22 3 (.int .i64 0) 8 rfl Try.underlying22 info3 rfl (by decide) (by omega) u4 ls ((level_Explicit.top s).f0) [.int .i64 ((level_Explicit.top s).f0)] (fun _ => True) (fun _ => False) rfl rfl ?aP (fun _ hk => hk.elim) (fun _ _ => trivial) ?aO ?aB ?aS ?aL ?_; (case aP => exact rfl); (case aO => exact HR.out.l); (case aB => exact HB.out); (case aS => exact HB.out.size); (case aL => have := HN.out; have := HE.out; omega); intro v9 w9 ho hb hgr hat; have n0_ := Aside0.mk (level_Explicit.rows_l HR.out ho hgr hat); have n1_ := Aside0.mk (level_Explicit.at_grown HA.out HR.out.l hgr); clear HA HR HB; have HA := n1_; have HR := n0_; have HB := Aside0.mk hb; clear n0_ n1_ ho hb hgr hat) | ((with_reducible refine gate_builtin (b := .append) (xs := #[.tmp 109, .tmp 111]) rfl ?_); at_builtin; refine Kd.R_append (Kd.int .i64) (w0 := w) w.heap.size rfl (.tmp 109) (.tmp 111) 22 3 (.int .i64 0) 8 rfl Try.underlying22 info3 rfl (by decide) (by omega) u5 ts (level_Explicit.see s c) [.int .i64 (level_Explicit.see s c)] (fun _ => True) (fun _ => False) rfl rfl ?aP (fun _ hk => hk.elim) (fun _ _ => trivial) ?aO ?aB ?aS ?aL ?_; (case aP => exact rfl); (case aO => exact HR.out.t); (case aB => exact HB.out); (case aS => exact HB.out.size); (case aL => have := HN.out; have := HE.out; omega); intro v9 w9 ho hb hgr hat; have n0_ := Aside0.mk (level_Explicit.rows_t HR.out ho hgr hat); have n1_ := Aside0.mk (level_Explicit.at_grown HA.out HR.out.t hgr); clear HA HR HB; have HA := n1_; have HR := n0_; have HB := Aside0.mk hb; clear n0_ n1_ ho hb hgr hat))
                  go_roundg k1
                  case measure => exact Nat.lt_succ_self _
                  case rel => exact ⟨_, _, _, s, ls ++ [(level_Explicit.top s).f0], ts ++ [level_Explicit.see s c], rfl, rfl, (by rw [HW2.out, List.length_append]; rfl), HH, ⟨by rw [List.length_append, List.length_append, HE.out]; rfl⟩, HA, HR, HB⟩
      ·
       rw [if_neg c2] at H
       cases H
     ·
      rw [if_neg c1] at H
      obtain ⟨rfl, rfl⟩ : ls = r1 ∧ ts = r2 := by simpa using H
      have c1b : decide ((ls.length : Int) < (l0.length : Int)) = false := decide_eq_false (by omega)
      have c1b2 : decide (ls.length < l0.length) = false := decide_eq_false c1
      clear H c1
      go_wp2
      go_ret2
      exact ⟨_, _, rfl, Kd.R_reok rfl HR.out.l (fun k hk he => HR.out.lt k hk he.symm), Kd.R_reok rfl HR.out.t (fun k hk he => HR.out.lt k he.symm hk), HB.out⟩
 ·
  rw [if_neg hw] at h
  obtain ⟨rfl, rfl⟩ : [] = r1 ∧ [] = r2 := by simpa using h
  have b0 : (a1 != 0) = true := bne_iff_ne.2 (fun e => hw (.inl e))
  have b1 : (a1 != 1) = true := bne_iff_ne.2 (fun e => hw (.inr e))
  clear h hw
  go_enter Try.func12, Try.ntmps12
  go_wp2
  go_ret2
  exact ⟨_, _, rfl, Kd.R_nil _ _ _ _ _, Kd.R_nil _ _ _ _ _, Below.refl _ _⟩
end


end Go.Proofs.Ytdieknpikdepgaa.PC12
