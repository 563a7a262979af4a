/- SeqsFound: the sequences of any classes are the document's, and the classes stay (the pure statement over the printed Lean functions). Conditions: those of the statement. -/
import Derived.Test.YtdieknpikdepgaaPC12x14
import Derived.Test.YtdieknpikdepgaaHR12
namespace Go.Proofs.Ytdieknpikdepgaa.Pure
open Go.RowKit Go.Proofs.Ytdieknpikdepgaa.PC12 Go.Proofs.YtdieknpikdepgaaW.PrintWords Go.Proofs.YtdieknpikdepgaaW.PrintLast Go.Proofs.YtdieknpikdepgaaH
set_option linter.unusedVariables false
set_option linter.unusedSimpArgs false

theorem sameX_l0 (l : List Int) (hl : l.length < 1000000) : ∀ (n i : Nat), i + n = l.length → Ev (fun k => parquetryref02_Same.l0 k l l (i : Int)) true := by
  intro n
  induction n with
  | zero =>
    intro i hi
    refine Ev.succ ?_
    simp only [parquetryref02_Same.l0]
    exact Ev.ifn (by omega) (Ev.now _)
  | succ n ih =>
    intro i hi
    refine Ev.succ ?_
    simp only [parquetryref02_Same.l0]
    rw [show wrap64 ((i : Int) + 1) = ((i + 1 : Nat) : Int) from by rw [w64 (by omega) (by omega)]; omega]
    exact Ev.ifp (by omega) (Ev.ifp (by omega) (Ev.ifp (by omega) (Ev.ifp trivial (ih (i + 1) (by omega)))))
theorem sameX_ev (l : List Int) (hl : l.length < 1000000) : Ev (fun k => parquetryref02_Same.f k l l) true := by
  unfold parquetryref02_Same.f
  exact Ev.ifp rfl (sameX_l0 l hl l.length 0 (by omega))
theorem sameS_l1 (s : List S28) (i : Nat) (hi : i < s.length) (n : Nat) (hf : (rd_T28 s (i : Int)).f3.length = n) (hn : n < 1000000) (h : Ev (fun k => parquetryref12_Same.l0 k s s (wrap64 ((i : Int) + 1))) true) : ∀ m j, j + m = n → Ev (fun k => parquetryref12_Same.l1 k s s (i : Int) (j : Int)) true := by
  intro m
  induction m with
  | zero =>
    intro j hj
    refine Ev.succ ?_
    simp only [parquetryref12_Same.l1, hf]
    exact Ev.ifp (by omega) (Ev.ifp (by omega) (Ev.ifn (by omega) h))
  | succ m ih =>
    intro j hj
    refine Ev.succ ?_
    simp only [parquetryref12_Same.l1, hf]
    rw [show wrap64 ((j : Int) + 1) = ((j + 1 : Nat) : Int) from by rw [w64 (by omega) (by omega)]; omega]
    exact Ev.ifp (by omega) (Ev.ifp (by omega) (Ev.ifp (by omega) (Ev.ifp (by omega) (Ev.ifp (by omega) (Ev.ifp (by omega) (Ev.ifp trivial (ih (j + 1) (by omega))))))))
theorem sameS_l0 (s : List S28) (hs : s.length < 1000000) (hf : ∀ i : Nat, i < s.length → (rd_T28 s (i : Int)).f3.length < 1000000) : ∀ m i, i + m = s.length → Ev (fun k => parquetryref12_Same.l0 k s s (i : Int)) true := by
  intro m
  induction m with
  | zero =>
    intro i hi
    refine Ev.succ ?_
    simp only [parquetryref12_Same.l0]
    exact Ev.ifn (by omega) (Ev.now _)
  | succ m ih =>
    intro i hi
    have hnext : Ev (fun k => parquetryref12_Same.l0 k s s (wrap64 ((i : Int) + 1))) true := by
      rw [show wrap64 ((i : Int) + 1) = ((i + 1 : Nat) : Int) from by rw [w64 (by omega) (by omega)]; omega]
      exact ih (i + 1) (by omega)
    have h1 := sameS_l1 s i (by omega) _ rfl (hf i (by omega)) hnext _ 0 (Nat.zero_add _)
    refine Ev.succ ?_
    simp only [parquetryref12_Same.l0]
    refine Ev.ifp (by omega) (Ev.ifp (by omega) (Ev.ifp (by omega) (Ev.ifp trivial (Ev.ifp trivial (Ev.ifp trivial ?_)))))
    rw [show ((((rd_T28 s (i : Int)).f3).length : Int) != (((rd_T28 s (i : Int)).f3).length : Int)) = false by simp]
    refine Ev.succ ?_
    simp only [parquetryref12_Same.j1]
    exact Ev.ifn (by decide) h1
theorem sameS_ev (s : List S28) (hs : s.length < 1000000) (hf : ∀ i : Nat, i < s.length → (rd_T28 s (i : Int)).f3.length < 1000000) : Ev (fun k => parquetryref12_Same.f k s s) true := by
  unfold parquetryref12_Same.f
  exact Ev.ifp rfl (sameS_l0 s hs hf s.length 0 (by omega))
theorem SeqsFound : parquetrylaw12_SeqsFound.Pure := by
  intro l a1 _ _ _ hw
  refine Ev.ex ?_
  unfold parquetrylaw12_SeqsFound.f
  by_cases hl : (l.length : Int) > 60
  · exact Ev.ifp hl awake_ev
  · have key : ∀ s, s.length < 1000000 → (∀ i : Nat, i < s.length → (rd_T28 s (i : Int)).f3.length < 1000000) → Ev (fun k => seqs_Sequences.f k l a1) s → Ev (fun k => parquetryref12_Sequences.f k l a1) s → Ev (fun k => if (l.length : Int) > 60 then parquetrylaw12_awake.f k else (seqs_Sequences.f k l a1).bind fun s => (parquetryref12_Sequences.f k l a1).bind fun t => (parquetryref12_Same.f k s t).bind fun b => if b = true ∧ s.length < 1000000 ∧ l.length < 1000000 then (parquetryref02_Same.f k l l).bind fun b2 => if b2 = true then parquetrylaw12_awake.f k else none else none) true := fun s h1 h2 h3 h4 =>
      Ev.ifn hl (Ev.bind h3 (Ev.bind h4 (Ev.bind (sameS_ev s h1 h2) (Ev.ifp ⟨rfl, h1, by omega⟩ (Ev.bind (sameX_ev l (by omega)) (Ev.ifp rfl awake_ev))))))
    by_cases hb : a1 = 0 ∨ a1 = 1
    · have hsl : (sqs l a1).length ≤ l.length := by unfold sqs; rw [List.length_map]; exact Fc_len _ _ _
      refine key (sqs l a1) (by omega) (fun i hi => ?_) (seqs_ev l (by omega) a1 hb) (refSeqs_ev l (by omega) a1 hb)
      have hFi : i < (Fc (lv l a1) l l.length).length := by unfold sqs at hi; rwa [List.length_map] at hi
      unfold rd_T28 sqs
      rw [Int.toNat_natCast, List.getD_eq_getElem?_getD, List.getElem?_map, List.getElem?_eq_getElem hFi]
      show (PC12.nums _).length < _
      unfold PC12.nums
      rw [List.length_map]
      have := chn_len (lv l a1) l l.length (Fc (lv l a1) l l.length)[i]
      omega
    · refine key [] (by simp) (fun i hi => by simp at hi) ?_ ?_
      · unfold seqs_Sequences.f
        have h1 : Ev (fun k => level_Explicit.f k l a1) ([], []) := by
          unfold level_Explicit.f
          exact Ev.ifn hb (Ev.now _)
        exact Ev.bind h1 (Ev.bind (match_ev l (by omega)) (Ev.bindc (show seqs_runs.f [] = some [] from rfl) (Ev.ifp (by simp) (Ev.now _))))
      · unfold parquetryref12_Sequences.f
        refine Ev.bind (refExplicit_no l a1 hb) (Ev.ifp (by simp) (Ev.succ ?_))
        simp only [parquetryref12_Sequences.lp]
        exact Ev.ifn (by simp) (Ev.now _)
end Go.Proofs.Ytdieknpikdepgaa.Pure
