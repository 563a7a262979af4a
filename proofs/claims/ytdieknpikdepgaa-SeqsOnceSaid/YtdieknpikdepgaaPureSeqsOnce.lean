/- SeqsOnce: each place that has a level stands in one sequence, of that level, in rising order (the pure statement over the printed Lean functions). Conditions: those of the statement. -/
import Derived.Test.YtdieknpikdepgaaPC12x15
import Derived.Test.YtdieknpikdepgaaHZ12
namespace Go.Proofs.Ytdieknpikdepgaa.Pure
open Go.RowKit Go.Proofs.Ytdieknpikdepgaa.PC12 Go.Proofs.YtdieknpikdepgaaW.PrintWords Go.Proofs.YtdieknpikdepgaaW.PrintLast Go.Proofs.YtdieknpikdepgaaH
set_option linter.unusedVariables false
set_option linter.unusedSimpArgs false

theorem head_of {L : List Nat} (hs : L.Pairwise (· < ·)) {f : Nat} (hf : f ∈ L) (hm : ∀ x ∈ L, f ≤ x) : ∃ T, L = f :: T := by
  cases L with
  | nil => cases hf
  | cons y T =>
    rcases List.mem_cons.1 hf with rfl | h
    · exact ⟨T, rfl⟩
    · have h1 := hm y (by simp)
      have h2 := List.rel_of_pairwise_cons hs h
      omega
theorem wy_01 (a b : Int) : wy a b = 0 ∨ wy a b = 1 := by
  unfold wy
  split
  · exact .inr rfl
  · exact .inl rfl
theorem eos_01 (V : Nat → Int) (l : List Int) (b : Int) (c i : Nat) : eos V l b c i = 0 ∨ eos V l b c i = 1 := by
  unfold eos
  split
  · exact .inl rfl
  · split
    · exact .inl rfl
    · exact wy_01 _ _
theorem sqs_at {l : List Int} {b : Int} {j f : Nat} (hf : (Fc (lv l b) l l.length)[j]? = some f) : rd_T28 (sqs l b) (j : Int) = ent (lv l b) l b l.length f := by
  unfold rd_T28 sqs
  rw [Int.toNat_natCast, List.getD_eq_getElem?_getD, List.getElem?_map, hf]
  rfl
theorem chn_head (l : List Int) (b : Int) (hb : b = 0 ∨ b = 1) (f : Nat) (hf : f ∈ Fc (lv l b) l l.length) : ∃ T, chn (lv l b) l l.length f = f :: T := by
  obtain ⟨h1, h2, h3⟩ := mem_Fc.1 hf
  refine head_of (chn_up _ _ _ _) (mem_chn.2 ⟨h1, h2, root_none h3⟩) fun x hx => ?_
  obtain ⟨_, _, h4⟩ := mem_chn.1 hx
  have := root_le (lv l b) l x x (Nat.le_refl _)
  omega
theorem once_good (l : List Int) (b : Int) (hb : b = 0 ∨ b = 1) (hl : l.length ≤ 500) : parquetrylaw12_SeqsOnce.good l.length (sqs l b) ((List.range l.length).map (lv l b)) ((List.range l.length).map (wh (lv l b) l)) := by
  have H := lv_Lv l b hb
  have hsl : (sqs l b).length = (Fc (lv l b) l l.length).length := by unfold sqs; rw [List.length_map]
  have hFl := Fc_len (lv l b) l l.length
  refine ⟨by simp, by simp, by omega, by omega, fun i hi => ?_, fun i hi => ?_⟩
  · unfold parquetrylaw12_SeqsOnce.p1
    rw [rd_map' _ _ _ hi, rd_map' _ _ _ hi]
    unfold wh
    by_cases h0 : 0 ≤ lv l b i
    · rw [if_pos h0]
      obtain ⟨h1, h2⟩ := root_F H hi h0
      refine ⟨⟨fun _ => h0, fun _ => Int.natCast_nonneg _⟩, fun _ => ⟨by omega, ?_⟩⟩
      rw [sqs_at (Fc_idx h1)]
      exact (root_made H i i (Nat.le_refl _) hi h0).2.2.1
    · rw [if_neg h0]
      exact ⟨⟨fun h => by omega, fun h => absurd h h0⟩, fun h => by omega⟩
  · unfold parquetrylaw12_SeqsOnce.p2
    have hget : (Fc (lv l b) l l.length)[i]? = some (Fc (lv l b) l l.length)[i] := List.getElem?_eq_getElem (by omega)
    obtain ⟨T, hT⟩ := chn_head l b hb _ (List.mem_of_getElem? hget)
    rw [sqs_at hget]
    have hf3 : (ent (lv l b) l b l.length (Fc (lv l b) l l.length)[i]).f3 = ((Fc (lv l b) l l.length)[i] : Int) :: PC12.nums T := by
      show PC12.nums (chn _ _ _ _) = _
      rw [hT]
      rfl
    rw [hf3]
    refine ⟨by simp, fun h0 => ?_, wy_01 _ _, eos_01 _ _ _ _ _⟩
    have hj : (i : Int) - 1 = ((i - 1 : Nat) : Int) := by omega
    have hlt : i - 1 < (Fc (lv l b) l l.length).length := by omega
    have hget' : (Fc (lv l b) l l.length)[i - 1]? = some (Fc (lv l b) l l.length)[i - 1] := List.getElem?_eq_getElem hlt
    obtain ⟨T', hT'⟩ := chn_head l b hb _ (List.mem_of_getElem? hget')
    rw [hj, sqs_at hget']
    have hf3' : (ent (lv l b) l b l.length (Fc (lv l b) l l.length)[i - 1]).f3 = ((Fc (lv l b) l l.length)[i - 1] : Int) :: PC12.nums T' := by
      show PC12.nums (chn _ _ _ _) = _
      rw [hT']
      rfl
    rw [hf3']
    refine ⟨by simp, ?_⟩
    show ((Fc (lv l b) l l.length)[i - 1] : Int) < ((Fc (lv l b) l l.length)[i] : Int)
    have := List.pairwise_iff_getElem.1 (Fc_up (lv l b) l l.length) (i - 1) i hlt (by omega) (by omega)
    omega
theorem SeqsOnce : parquetrylaw12_SeqsOnce.Pure := by
  intro l a1 _ _ _ hw
  refine Ev.ex ?_
  have hb := and_one a1
  unfold parquetrylaw12_SeqsOnce.f
  by_cases hl : (l.length : Int) > 500
  · exact Ev.ifp hl awake_ev
  · have h1 := seqs_ev l (by omega) _ hb
    have h2 := where_ev (l := l) (by omega) hb
    have h3 := explicit_ev l (by omega) _ hb
    exact Ev.ifn hl (Ev.bind h1 (Ev.bind h3 (Ev.bind h2 (Ev.ifp (once_good l _ hb (by omega)) awake_ev))))
end Go.Proofs.Ytdieknpikdepgaa.Pure
