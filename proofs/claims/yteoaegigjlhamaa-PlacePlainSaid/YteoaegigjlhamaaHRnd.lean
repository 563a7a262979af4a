/- Numbers that are told of by rows of rising ends: what they tell of a number they tell of the last end ahead of it. Conditions: none. -/
import Derived.Test.YteoaegigjlhamaaHEv
namespace Go.Proofs.YteoaegigjlhamaaH
open Go.RowKit Go.Proofs.YteoaegigjlhamaaW.PrintWords Go.Proofs.YteoaegigjlhamaaW.PrintLast Go.Proofs.YteoaegigjlhamaaW.PrintMore
set_option linter.unusedVariables false
set_option linter.unusedSimpArgs false
theorem rd_mid (pre:List Int) (x:Int) (r:List Int):rd (pre++x::r) (pre.length:Int)=x:=by
  unfold rd
  rw [Int.toNat_natCast,List.getD_eq_getElem?_getD,List.getElem?_append_right (Nat.le_refl _),Nat.sub_self]
  rfl
theorem wf_i64 {x:Int} (h:(Lit.int .i64 x).wf=true): -9223372036854775808≤x∧x≤9223372036854775807:=by
  have h':=h
  simp [Lit.wf,IntKind.min,IntKind.max,IntKind.bits,IntKind.signed] at h'
  omega
end Go.Proofs.YteoaegigjlhamaaH
