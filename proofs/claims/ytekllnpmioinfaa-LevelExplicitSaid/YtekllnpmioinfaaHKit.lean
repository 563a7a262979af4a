/- Words for the contracts that are proved by hand: a string's iterator as a block of the call's own, and what stays when it goes on. Conditions: none of its own. -/
import Derived.Test.YtekllnpmioinfaaWMore
import Derived.Laws.RangeString
import Derived.Laws.Cover4
namespace Go.Proofs.YtekllnpmioinfaaH
open Go.RowKit Go.Proofs.YtekllnpmioinfaaW.PrintWords Go.Proofs.YtekllnpmioinfaaW.PrintLast Go.Proofs.YtekllnpmioinfaaW.PrintMore
set_option linter.unusedVariables false
set_option linter.unusedSimpArgs false

/-- The world with the iterator at block b set to a place. -/
def iterTo (W : World) (b : Nat) (s : ByteArray) (p : Nat) : World := { W with heap := W.heap.setIfInBounds b (.stringIter s p) }
theorem iterTo_size (W : World) (b : Nat) (s : ByteArray) (p : Nat) : (iterTo W b s p).heap.size = W.heap.size := by simp [iterTo]
theorem iterTo_other (W : World) (b : Nat) (s : ByteArray) (p : Nat) (k : Nat) (h : k ≠ b) : (iterTo W b s p).heap[k]? = W.heap[k]? := by
  simp only [iterTo]
  rw [Array.getElem?_setIfInBounds_ne (Ne.symm h)]
theorem iterTo_at (W : World) (b : Nat) (s : ByteArray) (p : Nat) (h : b < W.heap.size) : (iterTo W b s p).heap[b]? = some (.stringIter s p) := by
  simp only [iterTo]
  rw [Array.getElem?_setIfInBounds_self_of_lt h]
theorem iterTo_below {B : Nat} {w W : World} {b : Nat} (s : ByteArray) (p : Nat) (h : Below B w W) (hb : B ≤ b) : Below B w (iterTo W b s p) :=
  ⟨h.os, h.tape, h.output, by rw [iterTo_size]; exact h.size, fun k hk => (iterTo_other W b s p k (by omega)).trans (h.block k hk)⟩
theorem lt_of_get {W : World} {b : Nat} {o : Obj} (h : W.heap[b]? = some o) : b < W.heap.size := (Array.getElem?_eq_some_iff.1 h).1

/-- A row of the call's own is no iterator: it stays when that one goes on. -/
theorem R_iter {α : Type} {d : Kd α} {e base : Nat} {ok : Nat → Prop} {v : Value} {xs : List α} {W : World} {b : Nat} {s : ByteArray} {p q : Nat} (h : d.R e W base ok v xs) (hb : W.heap[b]? = some (.stringIter s q)) :
    d.R e (iterTo W b s p) base ok v xs :=
  Kd.R_mono (Kd.R_step (Kd.R_bound h) (fun k hk _ => iterTo_other W b s p k (fun he => by
    obtain ⟨_, _, _, _, _, cells, hc⟩ := hk
    rw [he, hb] at hc
    cases hc))) (fun _ hk => hk.1)
/-- A row of the call's own lies in another block than an iterator. -/
theorem R_ne_iter {α : Type} {d : Kd α} {e base : Nat} {ok : Nat → Prop} {v : Value} {xs : List α} {W : World} {b : Nat} {s : ByteArray} {q : Nat} (h : d.R e W base ok v xs) (hb : W.heap[b]? = some (.stringIter s q)) :
    some b ≠ v.ownBlock := fun he => by
  obtain ⟨_, _, _, _, _, cells, hc⟩ := (Kd.R_bound h).1 b he.symm
  rw [hb] at hc
  cases hc

/-- 'string(rs)', rs a row of runes of the call's own. -/
theorem own_runes {P : Program} {w : World} {base n : Nat} {e' src dst e : TypeId} {v : Value} {xs : List Int} (hs : P.underlying src = some (.slice e)) (he : P.underlying e = some (.int .i32)) (hd : P.underlying dst = some .string)
    (h : w.ownsRow base e' 1 v n (nums .i32 xs)) : (convert src dst v).run P w = .ok (.string (runesBytes xs)) w := by
  obtain ⟨A, c, rfl, hr⟩ := own_reads h
  have hn : xs.length = n := hr.1
  cases A with
  | none =>
    have : n = 0 := by
      rcases Nat.eq_zero_or_pos n with h0 | h0
      · exact h0
      · obtain ⟨ad, he, _⟩ := hr.2.2 h0
        cases he
    subst this
    obtain rfl : xs = [] := List.eq_nil_of_length_eq_zero hn
    exact run_convert_runes_nil w src dst e 0 c hs he hd
  | some a =>
    have h1 := run_convert_runes w src dst e a n c xs (by omega) hs he hd (fun j hj => by
      obtain ⟨ad, he2, hc⟩ := hr.2.2 (by omega)
      injection he2 with he2
      subst he2
      exact hc j (by omega))
    rw [show xs.take n = xs from by rw [← hn, List.take_length]] at h1
    exact h1

theorem valid_le {c : Nat} (h : Utf8.valid (c : Int) = true) : c ≤ 1114111 := by
  simp only [Utf8.valid, Bool.or_eq_true, Bool.and_eq_true, decide_eq_true_eq] at h
  omega
theorem decode_bound (s : ByteArray) (p : Nat) : (Utf8.decode s p).1 ≤ 1114111 := by
  have e : Utf8.runeError = 65533 := rfl
  unfold Utf8.decode
  simp only
  split
  · simp only
    omega
  · split
    · split
      · simp only
        omega
      · simp only [e]
        omega
    · split
      · split
        · rename_i h
          simp only [Bool.and_eq_true, decide_eq_true_eq] at h
          exact valid_le h.2
        · simp only [e]
          omega
      · split
        · split
          · rename_i h
            simp only [Bool.and_eq_true, decide_eq_true_eq] at h
            exact valid_le h.2
          · simp only [e]
            omega
        · simp only [e]
          omega

section
variable {P : Program} {ops : Array Oper} {rest : List Oper} {o : Oper} {a : Act} {Q : Exit → Act → World → Prop} {W : World}
/-- 'range s' over a string: a new iterator. -/
theorem range_event (hgd : o.guard = none) (t : TypeId) (x : Operand) (ho : o.op = .range t x) (ht : P.underlying t = some .string) (s : ByteArray) (hx : a.eval x = .string s)
    (h : ∀ b W1, b = W.heap.size → W1.heap[b]? = some (.stringIter s 0) → Below W.heap.size W W1 → wpList P ops Q rest (a.put o.dst (.pointer (some ⟨b, 0, none⟩))) W1) : wpList P ops Q (o :: rest) a W := by
  refine Kd.event_run (w1 := W.iter s 0) (v := .pointer (some ⟨W.heap.size, 0, none⟩)) hgd ?_ (h _ _ rfl (World.iter_heap W s 0) (below_alloc (Below.refl _ _) _))
  simp [execOp, ho, hx, run_range_string W t s ht]
/-- The iterator goes on. -/
theorem next_event (hgd : o.guard = none) (x : Operand) (ho : o.op = .next x true) (s : ByteArray) (b p : Nat) (hx : a.eval x = .pointer (some ⟨b, 0, none⟩)) (hb : W.heap[b]? = some (.stringIter s p)) (hp : p < s.size)
    (h : ∀ W1, W1 = iterTo W b s (p + (Utf8.decode s p).2) → wpList P ops Q rest (a.put o.dst (.tuple #[.bool true, .int .i64 (p : Int), .int .i32 ((Utf8.decode s p).1 : Int)])) W1) : wpList P ops Q (o :: rest) a W := by
  refine Kd.event_run hgd ?_ (h _ rfl)
  simp [execOp, ho, hx, Instr.next, getObj, setObj, Sem.run, hb, hp, goInt, iterTo, Result.andThen]
/-- The iterator is at the end. -/
theorem next_end (hgd : o.guard = none) (x : Operand) (ho : o.op = .next x true) (s : ByteArray) (b p : Nat) (hx : a.eval x = .pointer (some ⟨b, 0, none⟩)) (hb : W.heap[b]? = some (.stringIter s p)) (hp : ¬ p < s.size)
    (h : wpList P ops Q rest (a.put o.dst (.tuple #[.bool false])) W) : wpList P ops Q (o :: rest) a W := by
  refine Kd.event_run hgd ?_ h
  simp [execOp, ho, hx, Instr.next, getObj, Sem.run, hb, hp]
end
/-! clear(xs), xs a row of the call's own -/
theorem R_clear_run {P : Program} {α : Type} (d : Kd α) {W : World} (base : Nat) (t ty e : TypeId) (z : Value) (bytes : Nat) (ht : P.underlying t = some (.slice e)) (hinfo : (P.info? e).map (fun i => (i.zero, i.size, i.bytes)) = some (some z, d.sz, bytes)) (hz : z.cells.size = d.sz) (hs0 : 0 < d.sz)
    (v : Value) (xs : List α) (z0 : α) {ok : Nat → Prop} (hzero : d.M W base (fun _ => False) z0 z.cells.toList) (HO : d.R e W base ok v xs) :
    ∃ w1, (Builtin.clear_ #[t] ty #[v]).run P W = .ok (.tuple #[]) w1 ∧ d.R e w1 base ok v (List.replicate xs.length z0) ∧ W.grownBy w1 v.ownBlock := by
  obtain ⟨i0, hi, hzz⟩ := Option.map_eq_some_iff.1 hinfo
  simp only [Prod.mk.injEq] at hzz
  obtain ⟨hz0, hz1, hz2⟩ := hzz
  obtain ⟨hok, inner, hown, hr⟩ := HO
  by_cases hn : xs.length = 0
  · have hx : xs = [] := List.eq_nil_of_length_eq_zero hn
    subst hx
    obtain ⟨A, c, rfl⟩ := own_slice hown
    refine ⟨W, ?_, ⟨hok, inner, hown, hr⟩, ⟨rfl, rfl, rfl, Nat.le_refl _, fun _ _ _ => rfl⟩⟩
    cases A <;> simp [Builtin.clear_, run_underlying ht]
  · rcases hown.2 with ⟨hv, h0⟩ | ⟨g, cap, cur, rfl, hbg, hg, hnc, hcm, hcs, htake⟩
    · exact absurd h0 hn
    · have hnM : Reps (d.M W base (fun _ => False)) d.sz (List.replicate xs.length z0) (Builtin.zeroCells z.cells xs.length).toList := Kd.reps_zeros hz hs0 hzero xs.length
      have hl : (Builtin.zeroCells z.cells xs.length).toList.length = xs.length * d.sz := by rw [hnM.1, List.length_replicate]
      have h1 : ∀ u ∈ (Builtin.zeroCells z.cells xs.length).toList, u.oneCell' = true := Kd.reps_one hnM hs0 (fun _ _ hp => d.K_one (d.K_of_M hp))
      have hfit : 0 + (Builtin.zeroCells z.cells xs.length).toList.length ≤ cur.size := by rw [hl, hcs, Nat.zero_add]; exact Nat.mul_le_mul_right _ hnc
      obtain ⟨cur', h3, h4, h5⟩ := setCells_row (Builtin.zeroCells z.cells xs.length).toList 0 W cur hg hfit
      obtain ⟨s1, s2, s3, s4⟩ := setCells_same g (Builtin.zeroCells z.cells xs.length).toList 0 W
      have hst := run_storeCells_cells (P := P) g 0 (Builtin.zeroCells z.cells xs.length).toList 0 W (fun j hj => by rw [cell_of_row W g _ cur e (0, 0) hg]; rw [Nat.zero_add] at hfit; simp only [Nat.zero_add]; rw [Array.getElem?_eq_getElem (by omega)]; rfl) (fun j _ => blk_frozen hg _) h1
      simp only [Nat.add_zero] at hst
      have hgr : W.grownBy (W.setCells g 0 (Builtin.zeroCells z.cells xs.length).toList) (Value.ownBlock (.slice (some ⟨g, 0, none⟩) xs.length cap)) :=
        ⟨s1, s2, s3, by rw [s4]; exact Nat.le_refl _, fun k _ hk => setCells_far _ _ k (fun e => hk (by simp [Value.ownBlock, e]))⟩
      have hlx : (List.replicate xs.length z0).length = xs.length := List.length_replicate
      refine ⟨W.setCells g 0 (Builtin.zeroCells z.cells xs.length).toList, ?_, ⟨hok, (Builtin.zeroCells z.cells xs.length).toList, ?_, ?_⟩, hgr⟩
      · obtain ⟨m, hm⟩ : ∃ m, xs.length = m + 1 := ⟨xs.length - 1, by omega⟩
        rw [hm] at hst ⊢
        simp [Builtin.clear_, run_underlying ht, zeroValue, typeInfo, hi, hz0, hst]
      · rw [hlx]
        refine ⟨hl, .inr ⟨g, cap, cur', rfl, hbg, h3, hnc, hcm, by rw [h4, hcs], ?_⟩⟩
        rw [h5, List.take_zero, List.nil_append, ← hl]
        exact List.take_left
      · refine hnM.imp_ (fun q c hq => ?_)
        have h6 := d.M_move (w1 := W.setCells g 0 (Builtin.zeroCells z.cells xs.length).toList) (fun k hk => hk.1.elim) (d.M_bound hq)
        exact d.M_mono (fun k hk => hk.1.elim) h6
section
variable {P : Program} {ops : Array Oper} {rest : List Oper} {o : Oper} {a : Act} {Q : Exit → Act → World → Prop} {α : Type}
theorem R_clear (d : Kd α) {w0 W : World} (base : Nat) (hgd : o.guard = none) (hN : o.dst = none) (s : Operand) (t e : TypeId) (z : Value) (bytes : Nat)
    (ho : o.op = .call { callee := .builtin .clear, args := #[s], argTypes := #[t] })
    (ht : P.underlying t = some (.slice e)) (hinfo : (P.info? e).map (fun i => (i.zero, i.size, i.bytes)) = some (some z, d.sz, bytes)) (hz : z.cells.size = d.sz) (hs0 : 0 < d.sz) (hb0 : 0 < bytes)
    (v : Value) (xs : List α) (z0 : α) (ok : Nat → Prop) (hs : a.eval s = v) (hzero : d.M W base (fun _ => False) z0 z.cells.toList) (hfresh : ∀ k, W.heap.size ≤ k → ok k)
    (HO : d.R e W base ok v xs) (HB : Below base w0 W) (hbase : base ≤ W.heap.size) (hl : (xs.length + 1) * bytes ≤ 140737488355328)
    (h : ∀ v1 w1, d.R e w1 base ok v1 (List.replicate xs.length z0) → Below base w0 w1 → W.grownBy w1 v.ownBlock → (v1.ownBlock = v.ownBlock ∨ ∃ b, v1.ownBlock = some b ∧ W.heap.size ≤ b) → wpList P ops Q rest a w1) :
    wpList P ops Q (o :: rest) a W := by
  obtain ⟨w1, hr1, h1, hg⟩ := R_clear_run (P := P) d base t o.type e z bytes ht hinfo hz hs0 v xs z0 hzero HO
  refine wpList_plain hgd fun K hK => ?_
  unfold Oper.wp execOp
  simp only [ho, resolve, invoke, builtin, Sem.run_bind, Sem.run_pure, Result.andThen_ok, List.map_toArray, List.map_cons, List.map_nil, hs, hr1]
  show K (a.put o.dst (.tuple #[])) w1
  rw [hN]
  exact hK _ _ (h v w1 h1 (HB.grown hg hbase (Kd.R_base HO)) hg (.inl rfl))
end
end Go.Proofs.YtekllnpmioinfaaH
