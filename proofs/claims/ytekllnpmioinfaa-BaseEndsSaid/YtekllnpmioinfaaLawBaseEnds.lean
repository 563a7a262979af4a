/- For the laws of the group C10: the Lean functions that the Go functions compute, and proofs that they do. Written by wip/hprint.py of this repo over the kit's printer; nothing here is trusted: Lean checks it. -/
import Derived.Test.YtekllnpmioinfaaRows
import Derived.Test.YtekllnpmioinfaaPC10x15
import Derived.Test.YtekllnpmioinfaaPureBaseEnds
import Derived.WalkKit
import Derived.ProofKit
import Derived.OpenShut
import Derived.ShutString
import Derived.ChangeOld
import Derived.Below
import Derived.SizedLaws
import Derived.Test.YtekllnpmioinfaaWSized
import Derived.Test.YtekllnpmioinfaaHRow
namespace Go.Proofs.Ytekllnpmioinfaa.baseEnds
open Go.ChangeShapes Go.WideShapes Go.ChangeAt Go.RowKit
open Go.ChangeMaps (open_string shut_string)
set_option linter.unusedVariables false
theorem own : ownKnob Try.prog.godebug = none := by kernel_rfl
theorem laidOut : laidOutB Try.prog = true := by kernel_rfl
def IsRow (k : IntKind) (w : World) (a : Option Addr) (len cap : Nat) (zs : List Int) : Prop :=
  (a = none ∧ len = 0 ∧ cap = 0 ∧ zs = []) ∨
  ∃ x, a = some x ∧ len ≤ cap ∧ cap ≤ maxLen ∧ zs.length = cap ∧ (∀ i, i < zs.length → w.cell? (x.add i) = some (.int k (zs.getD i 0))) ∧ ∀ n ∈ zs, (Lit.int k n).wf = true
set_option maxRecDepth 100000 in
theorem lifted (os : Os) (started : os.Started) (H : Type) (enc : TypeId × Value → H) :
    ReturnsInHanded {} Try.checked os 3 .any (Rows.baseEndsSpec.pre6 enc Try.prog Try.f3 Rows.baseEndsRow.domain false) (Rows.baseEndsSpec.post enc Try.prog Try.f3 false true false false) := by
  refine returnsInHanded_of_change_sized (C := Try.checked) own started (by kernel_rfl) Try.func3
    (ChangeSpec.witness6 (enc := enc) (C := Try.checked) false ⟨#[], #[.slice none 0 0], []⟩ 8 (by kernel_rfl) (by kernel_rfl) (by kernel_rfl) (by kernel_rfl)) ?_
  intro W base args ds gs before hval0 hW hcnd hsz0 _
  have hsz : (DataW.weightsEach Try.prog (Try.f3.params.toList ++ Rows.baseEndsSpec.plain.varTypes Try.prog) (ds ++ gs)).all (· ≤ reachBytes) = true := hsz0
  have hval : ∀ (j : Nat) t v, Try.f3.params[j]? = some t → args[j]? = some v → Value.okWide Try.prog W .any base t v := hval0
  have hW' := hW
  obtain ⟨p, q, hA0, hV, rfl, hfz, hnd⟩ := hW
  have hA : DataW.TrodAll enc Try.prog W 0 (fun _ => true) true Try.f3.params.toList args.toList ds p := hA0
  rw [Try.params3] at hA hval hsz
  obtain ⟨v0, vs0, d0, ds0, p0, q0, hargs, rfl, rfl, h0, r0⟩ := trodAll_cons hA
  obtain ⟨rfl, rfl, rfl⟩ := trodAll_nil r0
  obtain rfl : args = #[v0] := by cases args; simp_all
  obtain ⟨rfl, rfl⟩ := trodVars_none hV
  obtain ⟨a0, len0, cap0, rfl⟩ := okWide_slice Try.underlying22 (hval 0 22 v0 rfl rfl)
  have k0 := h0
  have lt0 : ∀ x ∈ p0, x.block < W.heap.size := by obtain ⟨m, hm⟩ := k0; exact DataW.trod_lt m _ _ _ hm
  have y0 : len0 * 24 ≤ 140737488351232 := Go.Proofs.YtekllnpmioinfaaH.sized_structs hsz (j := 0) (t := 22) rfl rfl Try.underlying22 (by kernel_rfl) h0
  obtain ⟨l0, rfl, hr0, hc0, hm0, hw0⟩ : ∃ l : List PC10.S36, l.length = len0 ∧ Go.Proofs.YtekllnpmioinfaaW.PrintWords.Kd.C PC10.k36 W a0 len0 l ∧ len0 ≤ cap0 ∧ len0 ≤ maxLen ∧ ∀ x ∈ l, (Lit.int .i64 x.f0).wf = true ∧ (Lit.int .i64 x.f1).wf = true ∧ (Lit.int .i64 x.f2).wf = true := by
    obtain ⟨fuel, hf⟩ := h0
    rcases Go.Proofs.YtekllnpmioinfaaH.open_structs 3 Try.underlying3 Try.underlying22 Try.underlying36 (by kernel_rfl) (by kernel_rfl) (by kernel_rfl) hf with hcs | ⟨x, l, c, Z, hcs, hl, hm, hz⟩
    · simp [Value.cells] at hcs
      obtain ⟨rfl, rfl, rfl⟩ := hcs
      exact ⟨[], rfl, ⟨rfl, Nat.zero_le _, fun h => absurd h (Nat.lt_irrefl _)⟩, Nat.le_refl _, Nat.zero_le _, fun x hx => by simp at hx⟩
    · simp [Value.cells] at hcs
      obtain ⟨rfl, rfl, rfl⟩ := hcs
      have hz0 : ∀ i, i < len0 → ∀ j, j < 3 → W.cell? (x.add (i * 3 + j)) = some (.int .i64 (Z i j)) ∧ (Lit.int .i64 (Z i j)).wf = true := hz
      refine ⟨(List.range len0).map (fun i => (⟨Z i 0, Z i 1, Z i 2⟩ : PC10.S36)), by simp, Go.Proofs.YtekllnpmioinfaaH.structs_C PC10.k36 (fun z => (⟨z 0, z 1, z 2⟩ : PC10.S36)) (fun w z => PC10.k36_mk w _) W x len0 (Nat.le_trans hl hm) Z (fun i hi j hj => (hz0 i hi j hj).1), hl, Nat.le_trans hl hm, fun y hy => ?_⟩
      obtain ⟨q, hq, rfl⟩ := List.mem_map.1 hy
      have hq := List.mem_range.1 hq
      exact ⟨(hz0 q hq 0 (by decide)).2, (hz0 q hq 1 (by decide)).2, (hz0 q hq 2 (by decide)).2⟩
  clear hA0 hval0 hsz0 hsz
  refine (PC10.parquetrylaw10_BaseEnds.walk Pure.BaseEnds a0 cap0 l0 W hr0 hc0 hm0 y0 hw0).mono fun e W' ⟨he, bel⟩ => ?_
  subst he
  exact ⟨_, rfl, _, _, _, [], _, [], hW', trodAll_mk1 (shut_bool Try.underlying4 _), (trodAll_cons_mk (Below.trod laidOut (by kernel_rfl) (of_decide_eq_true (by kernel_rfl)) k0 bel lt0) trodAll_mk0), rfl, bel.frame _, fun h => by cases h⟩
theorem over : Rows.baseEndsRow.holds Try.pinned (OpenSpec.ofChange Rows.baseEndsSpec) :=
  OpenClaim.holds_of_wide 3 Try.f3 rfl rfl rfl rfl rfl rfl rfl ⟨rfl, rfl, rfl, rfl, rfl⟩ rfl rfl rfl rfl rfl (by kernel_rfl) Try.func3 (by kernel_rfl)
    (of_decide_eq_true (by kernel_rfl)) (by unfold Func.isWrapper; first | (rw [if_pos (by decide +kernel)]; kernel_rfl) | (rw [if_neg (by decide +kernel)]; exact ⟨rfl, rfl⟩))
    (fun os started H enc _ => lifted os started H enc)
theorem proved : Rows.BaseEndsSaid := over
#print axioms proved
end Go.Proofs.Ytekllnpmioinfaa.baseEnds
namespace Go.Proofs.Ytekllnpmioinfaa
/-- The row, under a short name, for the claim. -/
theorem baseEnds_holds : Rows.BaseEndsSaid := baseEnds.proved
end Go.Proofs.Ytekllnpmioinfaa
