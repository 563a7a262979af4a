/- 'clear(xs)' of a row of the call's own: the row stays where it is, what stands in it is zero. Conditions: none. -/
import Derived.Test.YtdieknpikdepgaaWMore
import Derived.Laws.RangeString
import Derived.Laws.Cover4
namespace Go.Proofs.YtdieknpikdepgaaH
open Go.RowKit Go.Proofs.YtdieknpikdepgaaW.PrintWords Go.Proofs.YtdieknpikdepgaaW.PrintLast Go.Proofs.YtdieknpikdepgaaW.PrintMore
/-! clear(xs), xs a row of the call's own -/
theorem clr_run {P : Program} {α : Type} (d : Kd α) {W : World} (base : Nat) (t ty e : TypeId) (z : Value) (bytes : Nat) (ht : P.underlying t = some (.slice e)) (hinfo : (P.info? e).map (fun i => (i.zero, i.size, i.bytes)) = some (some z, d.sz, bytes)) (hz : z.cells.size = d.sz) (hs0 : 0 < d.sz)
    (v : Value) (xs : List α) (z0 : α) {ok : Nat → Prop} (hzero : d.M W base (fun _ => False) z0 z.cells.toList) (HO : d.R e W base ok v xs) :
    ∃ w1, (Builtin.clear_ #[t] ty #[v]).run P W = .ok (.tuple #[]) w1 ∧ d.R e w1 base ok v (List.replicate xs.length z0) ∧ W.grownBy w1 v.ownBlock := by
  obtain ⟨i0, hi, hzz⟩ := Option.map_eq_some_iff.1 hinfo
  simp only [Prod.mk.injEq] at hzz
  obtain ⟨hz0, hz1, hz2⟩ := hzz
  obtain ⟨hok, inner, hown, hr⟩ := HO
  by_cases hn : xs.length = 0
  · have hx : xs = [] := List.eq_nil_of_length_eq_zero hn
    subst hx
    obtain ⟨A, c, rfl⟩ := own_slice hown
    refine ⟨W, ?_, ⟨hok, inner, hown, hr⟩, ⟨rfl, rfl, rfl, Nat.le_refl _, fun _ _ _ => rfl⟩⟩
    cases A <;> simp [Builtin.clear_, run_underlying ht]
  · rcases hown.2 with ⟨hv, h0⟩ | ⟨g, cap, cur, rfl, hbg, hg, hnc, hcm, hcs, htake⟩
    · exact absurd h0 hn
    · have hnM : Reps (d.M W base (fun _ => False)) d.sz (List.replicate xs.length z0) (Builtin.zeroCells z.cells xs.length).toList := Kd.reps_zeros hz hs0 hzero xs.length
      have hl : (Builtin.zeroCells z.cells xs.length).toList.length = xs.length * d.sz := by rw [hnM.1, List.length_replicate]
      have h1 : ∀ u ∈ (Builtin.zeroCells z.cells xs.length).toList, u.oneCell' = true := Kd.reps_one hnM hs0 (fun _ _ hp => d.K_one (d.K_of_M hp))
      have hfit : 0 + (Builtin.zeroCells z.cells xs.length).toList.length ≤ cur.size := by rw [hl, hcs, Nat.zero_add]; exact Nat.mul_le_mul_right _ hnc
      obtain ⟨cur', h3, h4, h5⟩ := setCells_row (Builtin.zeroCells z.cells xs.length).toList 0 W cur hg hfit
      obtain ⟨s1, s2, s3, s4⟩ := setCells_same g (Builtin.zeroCells z.cells xs.length).toList 0 W
      have hst := run_storeCells_cells (P := P) g 0 (Builtin.zeroCells z.cells xs.length).toList 0 W (fun j hj => by rw [cell_of_row W g _ cur e (0, 0) hg]; rw [Nat.zero_add] at hfit; simp only [Nat.zero_add]; rw [Array.getElem?_eq_getElem (by omega)]; rfl) (fun j _ => blk_frozen hg _) h1
      simp only [Nat.add_zero] at hst
      have hgr : W.grownBy (W.setCells g 0 (Builtin.zeroCells z.cells xs.length).toList) (Value.ownBlock (.slice (some ⟨g, 0, none⟩) xs.length cap)) :=
        ⟨s1, s2, s3, by rw [s4]; exact Nat.le_refl _, fun k _ hk => setCells_far _ _ k (fun e => hk (by simp [Value.ownBlock, e]))⟩
      have hlx : (List.replicate xs.length z0).length = xs.length := List.length_replicate
      refine ⟨W.setCells g 0 (Builtin.zeroCells z.cells xs.length).toList, ?_, ⟨hok, (Builtin.zeroCells z.cells xs.length).toList, ?_, ?_⟩, hgr⟩
      · obtain ⟨m, hm⟩ : ∃ m, xs.length = m + 1 := ⟨xs.length - 1, by omega⟩
        rw [hm] at hst ⊢
        simp [Builtin.clear_, run_underlying ht, zeroValue, typeInfo, hi, hz0, hst]
      · rw [hlx]
        refine ⟨hl, .inr ⟨g, cap, cur', rfl, hbg, h3, hnc, hcm, by rw [h4, hcs], ?_⟩⟩
        rw [h5, List.take_zero, List.nil_append, ← hl]
        exact List.take_left
      · refine hnM.imp_ (fun q c hq => ?_)
        have h6 := d.M_move (w1 := W.setCells g 0 (Builtin.zeroCells z.cells xs.length).toList) (fun k hk => hk.1.elim) (d.M_bound hq)
        exact d.M_mono (fun k hk => hk.1.elim) h6
section
variable {P : Program} {ops : Array Oper} {rest : List Oper} {o : Oper} {a : Act} {Q : Exit → Act → World → Prop} {α : Type}
theorem clr_event (d : Kd α) {W : World} (base : Nat) (hgd : o.guard = none) (hN : o.dst = none) (s : Operand) (t e : TypeId) (z : Value) (bytes : Nat)
    (ho : o.op = .call { callee := .builtin .clear, args := #[s], argTypes := #[t] })
    (ht : P.underlying t = some (.slice e)) (hinfo : (P.info? e).map (fun i => (i.zero, i.size, i.bytes)) = some (some z, d.sz, bytes)) (hz : z.cells.size = d.sz) (hs0 : 0 < d.sz)
    (v : Value) (xs : List α) (z0 : α) (ok : Nat → Prop) (hs : a.eval s = v) (hzero : d.M W base (fun _ => False) z0 z.cells.toList) (HO : d.R e W base ok v xs)
    (h : ∀ w1, d.R e w1 base ok v (List.replicate xs.length z0) → W.grownBy w1 v.ownBlock → wpList P ops Q rest a w1) :
    wpList P ops Q (o :: rest) a W := by
  obtain ⟨w1, hr1, h1, hg⟩ := clr_run (P := P) d base t o.type e z bytes ht hinfo hz hs0 v xs z0 hzero HO
  refine wpList_plain hgd fun K hK => ?_
  unfold Oper.wp execOp
  simp only [ho, resolve, invoke, builtin, Sem.run_bind, Sem.run_pure, Result.andThen_ok, List.map_toArray, List.map_cons, List.map_nil, hs, hr1]
  show K (a.put o.dst (.tuple #[])) w1
  rw [hN]
  exact hK _ _ (h w1 h1 hg)
end
end Go.Proofs.YtdieknpikdepgaaH
