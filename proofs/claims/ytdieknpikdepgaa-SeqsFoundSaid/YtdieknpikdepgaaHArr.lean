/- Words for arrays whose value is written out, and for searches in rows that rise. Conditions: none of its own. -/
import Derived.Test.YtdieknpikdepgaaWMore
import Derived.Test.YtdieknpikdepgaaWRepsOne
import Derived.Shelf.Abstract
import Derived.Great.BuildSlice
import Derived.Laws.Tables
import Derived.Laws.Cells
import Derived.Laws.Rows
namespace Go.Proofs.YtdieknpikdepgaaH
open Go.RowKit Go.Proofs.YtdieknpikdepgaaW.PrintWords Go.Proofs.YtdieknpikdepgaaW.PrintLast Go.Proofs.YtdieknpikdepgaaW.PrintMore
set_option linter.unusedVariables false
set_option linter.unusedSimpArgs false

/-- The item of a list at a place. -/
def nth (l : List Int) (j : Nat) : Int := l.getD j 0
section
variable {P : Program} {ops : Array Oper} {rest : List Oper} {o : Oper} {a : Act} {Q : Exit → Act → World → Prop} {W : World}
/-- A variable in memory, all zeros. -/
theorem alloc_event (hgd : o.guard = none) (t : TypeId) (ho : o.op = .alloc t) (n : Nat) (hz : (P.info? t).bind (fun i => i.zero.map (fun z => z.cells.size)) = some n)
    (h : ∀ g W1 cs, cs.size = n → g = W.heap.size → W1.heap[g]? = some (.cells cs t (0, 0)) → Below W.heap.size W W1 → W1.heap.size = W.heap.size + 1 → wpList P ops Q rest (a.put o.dst (.pointer (some ⟨g, 0, none⟩))) W1) : wpList P ops Q (o :: rest) a W := by
  obtain ⟨i, hi, hzz⟩ := Option.bind_eq_some_iff.1 hz
  obtain ⟨z, hz0, hzn⟩ := Option.map_eq_some_iff.1 hzz
  refine Kd.event_run (w1 := W.alloc (.cells z.cells t)) (v := .pointer (some ⟨W.heap.size, 0, none⟩)) hgd ?_ (h _ _ z.cells hzn rfl (heap_alloc_new W _) (below_alloc (Below.refl _ _) _) (by simp))
  simp [execOp, ho, Instr.alloc, zeroValue, typeInfo, hi, hz0, newVar, newRow, Sem.run, Result.andThen]
/-- A whole variable is written. -/
theorem block_store (hgd : o.guard = none) (hN : o.dst = none) (t : TypeId) (p x : Operand) (ho : o.op = .store t p x) {g : Nat} {e : TypeId} {cur : Array Value} (hp : a.eval p = .pointer (some ⟨g, 0, none⟩)) (v : Value) (hx : a.eval x = v)
    (hh : W.heap[g]? = some (.cells cur e (0, 0))) (hs : v.cells.size = cur.size) (ht : (P.info? t).map (·.size) = some cur.size) (h1 : ∀ q ∈ v.cells.toList, q.oneCell' = true)
    (h : ∀ W1, W1.heap[g]? = some (.cells v.cells e (0, 0)) → (∀ k, k ≠ g → W1.heap[k]? = W.heap[k]?) → W1.heap.size = W.heap.size → (∀ B w0, Below B w0 W → B ≤ g → Below B w0 W1) → wpList P ops Q rest a W1) : wpList P ops Q (o :: rest) a W := by
  have hl : v.cells.toList.length = cur.size := by rw [Array.length_toList]; exact hs
  have hrun := run_store_run (P := P) (w := W) (g := g) (o := 0) (e := e) (cur := cur) t v v.cells.toList hh rfl (by rw [ht, hl]) (by omega) h1
  obtain ⟨cur', h3, h4, h5⟩ := setCells_row v.cells.toList 0 W cur hh (by omega)
  obtain ⟨s1, s2, s3, s4⟩ := setCells_same g v.cells.toList 0 W
  have hc : cur' = v.cells := by
    apply Array.ext'
    rw [h5, List.take_zero, List.nil_append, Nat.zero_add, List.drop_of_length_le (by rw [Array.length_toList]; omega), List.append_nil]
  refine wpList_plain hgd fun K hK => ?_
  unfold Oper.wp execOp
  simp only [ho, hp, hx, Sem.run_bind, Sem.run_pure, Result.andThen_ok, hrun]
  show K (a.put o.dst undef) _
  rw [hN]
  refine hK a _ (h _ (by rw [hc] at h3; exact h3) (fun k hk => setCells_far _ _ k hk) s4 (fun B w0 hb hle => ⟨s1.trans hb.os, s2.trans hb.tape, s3.trans hb.output, by rw [s4]; exact hb.size, fun k hk => (setCells_far _ _ k (by omega)).trans (hb.block k hk)⟩))
end
theorem results_c1 {P : Program} {fn : Func} {p : Tmp} {ty : TypeId} (h : fn.results = #[.cell p ty]) (tmps : Array Value) (w : World) (g : Nat) (t : TypeId) (cs : Array Value) (fr : Nat × Nat) (d : TypeDesc)
    (hp : tmps.getD p undef = .pointer (some ⟨g, 0, none⟩)) (hg : w.heap[g]? = some (.cells cs t fr))
    (hu : P.underlying ty = some d) (hd : (match d with | .struct _ | .array _ _ => true | _ => false) = true) (hi : (P.info? ty).map (·.size) = some cs.size) :
    (results fn tmps).run P w = .ok (.agg cs) w := by
  have hp' : tmps[p]?.getD undef = .pointer (some ⟨g, 0, none⟩) := by simpa using hp
  simp [results, h, hp', asAddr, run_loadVar_row w g t ty cs fr d hg hu hd hi]
theorem nums_cell (W : World) (g : Nat) (t : TypeId) (l : List Int) (h : W.heap[g]? = some (.cells (nums .i64 l).toArray t (0, 0))) (j : Nat) (hj : j < l.length) : W.cell? ⟨g, j, none⟩ = some (.int .i64 (nth l j)) := by
  rw [blk_cell h j]
  unfold nums nth
  simp [List.getElem?_eq_getElem hj, List.getD_eq_getElem?_getD]
section
variable {P : Program} {ops : Array Oper} {rest : List Oper} {o : Oper} {a : Act} {Q : Exit → Act → World → Prop} {W : World}
end
section
variable {P : Program} {ops : Array Oper} {rest : List Oper} {o : Oper} {a : Act} {Q : Exit → Act → World → Prop} {W : World}
end
end Go.Proofs.YtdieknpikdepgaaH
