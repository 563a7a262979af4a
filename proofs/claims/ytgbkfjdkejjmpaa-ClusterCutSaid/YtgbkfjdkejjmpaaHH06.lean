/- Chapter 6: the runes of a text, and what cluster.Split tells. Conditions: at most 100000 bytes. -/
import Derived.Test.YtgbkfjdkejjmpaaHE06
import Derived.Test.YtgbkfjdkejjmpaaHI06
import Derived.Test.YtgbkfjdkejjmpaaPC06x5
namespace Go.Proofs.Ytgbkfjdkejjmpaa.PC06
open Go.RowKit Go.Proofs.YtgbkfjdkejjmpaaW.PrintWords Go.Proofs.YtgbkfjdkejjmpaaW.PrintLast Go.Proofs.YtgbkfjdkejjmpaaW.PrintMore Go.Proofs.YtgbkfjdkejjmpaaH
set_option linter.unusedVariables false
set_option linter.unusedSimpArgs false
open Q01 (Chain chain_of chain_le runesOf runesOf_len)

theorem chain_ok : ∀ (xs : List Rn) (p e : Int), Chain p xs e → 0 ≤ p → e ≤ 1000000000 → ∀ r ∈ xs, okR r
  | [], p, e, h, _, _, r, hr => by simp at hr
  | x :: xs, p, e, h, hp, he, r, hr => by
    obtain ⟨h1, h2, h3, h4, h5, h6⟩ := h
    have := chain_le _ _ _ h6
    rcases List.mem_cons.1 hr with rfl | hr
    · exact ⟨⟨by omega, by omega⟩, ⟨by omega, by omega⟩, ⟨by omega, by omega⟩⟩
    · exact chain_ok xs _ _ h6 (by omega) he r hr
theorem runes_ok (L : List UInt8) (hL : L.length < 1000000) : ∀ r ∈ runesOf L, okR r := chain_ok _ _ _ (chain_of L) (by omega) (by omega)
theorem csplit_eq (L : List UInt8) (hL : L.length < 1000000) : cluster_Split.f ⟨⟨L⟩⟩ = some (cls (runesOf L)) := by
  have := runesOf_len L
  unfold cluster_Split.f
  rw [Q01.split_eq L (by omega), Option.bind_some, of_eq _ (runes_ok L hL) (by omega)]
  rfl
end Go.Proofs.Ytgbkfjdkejjmpaa.PC06
