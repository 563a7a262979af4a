/- SeqsOne: where nothing embeds, overrides or isolates there is one sequence, of all that is kept (the pure statement over the printed Lean functions). Conditions: those of the statement. -/
import Derived.Test.YtdieknpikdepgaaPC12x7
import Derived.Test.YtdieknpikdepgaaHY12
namespace Go.Proofs.Ytdieknpikdepgaa.Pure
open Go.RowKit Go.Proofs.Ytdieknpikdepgaa.PC12 Go.Proofs.YtdieknpikdepgaaW.PrintWords Go.Proofs.YtdieknpikdepgaaW.PrintLast Go.Proofs.YtdieknpikdepgaaH
set_option linter.unusedVariables false
set_option linter.unusedSimpArgs false

theorem sat_plain (l : List Int) (b : Int) : ∀ i, (∀ j, j < i → at' l j < 14 ∨ 22 < at' l j) → sat l b i = ⟨0, 0, 0, [⟨b, -1, false⟩]⟩
  | 0, _ => rfl
  | i + 1, h => by
    have ih := sat_plain l b i (fun j hj => h j (by omega))
    have h0 := h i (by omega)
    show s2v l i (level_Explicit.s1 (sat l b i) (at' l i)) = _
    rw [s2v_not (fun hc => by have h3 : at' l i = 19 ∨ at' l i = 20 ∨ at' l i = 21 := by simpa [ini] using hc
                              omega), ih]
    unfold level_Explicit.s1
    rw [if_neg (by omega), if_neg (by omega), if_neg (by omega), if_neg (by omega), if_neg (by omega), if_neg (by omega)]
theorem lv_plain (l : List Int) (b : Int) (i : Nat) (h : ∀ j, j ≤ i → at' l j < 14 ∨ 22 < at' l j) (hg : 0 ≤ lv l b i) : lv l b i = b := by
  have h0 := h i (Nat.le_refl _)
  unfold lv at hg ⊢
  by_cases hc : gone (at' l i) = true
  · rw [if_pos hc] at hg
    omega
  · rw [if_neg hc]
    unfold level_Explicit.at1
    rw [if_neg (show at' l i ≠ 22 by omega), sat_plain l b i (fun j hj => h j (by omega))]
    split <;> rfl
/-- All at one level, and nothing there that goes on elsewhere: one sequence. -/
theorem one_sqs (l : List Int) (b : Int) (hb : b = 0 ∨ b = 1) (h : ∀ j, j < l.length → at' l j < 14 ∨ 22 < at' l j) : sqs l b = if KL (lv l b) 0 l.length = [] then [] else [⟨b, b, b, PC12.nums (KL (lv l b) 0 l.length)⟩] := by
  have H := lv_Lv l b hb
  have hV : ∀ x, x < l.length → 0 ≤ lv l b x → lv l b x = b := fun x hx h0 => lv_plain l b x (fun j hj => h j (by omega)) h0
  have hw : wy b b = b := by rcases hb with rfl | rfl <;> decide
  generalize hVe : lv l b = V at *
  have hpred : ∀ x, x < l.length → 0 ≤ V x → pred V l x = prv V x := by
    intro x hx h0
    have hx' := h x hx
    unfold pred
    by_cases hbg : bgn V x = true
    · rw [if_pos hbg, if_neg (by omega)]
      cases hq : prv V x with
      | none => rfl
      | some q =>
        have h1 := prv_some.1 hq
        unfold bgn at hbg
        rw [hq] at hbg
        simp only [decide_eq_true_eq] at hbg
        exact absurd (by rw [hV q (by omega) h1.2.1, hV x hx h0]) hbg
    · rw [if_neg hbg]
  unfold sqs
  rw [hVe]
  by_cases hK : KL V 0 l.length = []
  · rw [if_pos hK]
    unfold Fc
    rw [hK]
    rfl
  · rw [if_neg hK]
    obtain ⟨f, rest, hfr⟩ := List.exists_cons_of_ne_nil hK
    have hup := KL_up V 0 l.length
    rw [hfr] at hup
    have hfm : f ∈ KL V 0 l.length := by rw [hfr]; simp
    obtain ⟨_, f1, f2⟩ := mem_KL.1 hfm
    have hmin : ∀ x, x < l.length → 0 ≤ V x → f ≤ x := by
      intro x h1 h2
      have : x ∈ f :: rest := hfr ▸ mem_KL.2 ⟨Nat.zero_le _, h1, h2⟩
      rcases List.mem_cons.1 this with rfl | h3
      · exact Nat.le_refl _
      · have := List.rel_of_pairwise_cons hup h3
        omega
    have hpf : prv V f = none := prv_none.2 fun x hx => by
      by_cases h0 : 0 ≤ V x
      · have := hmin x (by omega) h0
        omega
      · omega
    have hroot : ∀ m x, x ≤ m → x < l.length → 0 ≤ V x → root V l x = f := by
      intro m
      induction m with
      | zero =>
        intro x hm hx h0
        obtain rfl : x = f := by have := hmin x hx h0; omega
        exact root_none (by rw [hpred x hx h0]; exact hpf)
      | succ m ih =>
        intro x hm hx h0
        cases hq : prv V x with
        | none =>
          obtain rfl : x = f := by
            have h1 := hmin x hx h0
            rcases Nat.lt_or_ge f x with h2 | h2
            · have := prv_none.1 hq f h2
              omega
            · omega
          exact root_none (by rw [hpred x hx h0]; exact hpf)
        | some q =>
          have h1 := prv_some.1 hq
          rw [root_some (by rw [hpred x hx h0]; exact hq) h1.1]
          exact ih q (by omega) (by omega) h1.2.1
    have hF : Fc V l l.length = [f] := by
      unfold Fc
      rw [hfr, List.filter_cons, if_pos (by rw [hpred f f1 f2, hpf]; rfl)]
      congr 1
      rw [List.filter_eq_nil_iff]
      intro x hx
      have hx' : x ∈ KL V 0 l.length := by rw [hfr]; exact List.mem_cons_of_mem _ hx
      obtain ⟨_, h1, h2⟩ := mem_KL.1 hx'
      have h3 := List.rel_of_pairwise_cons hup hx
      rw [hpred x h1 h2]
      cases hq : prv V x with
      | none => have := prv_none.1 hq f h3; omega
      | some q => simp
    have hC : chn V l l.length f = KL V 0 l.length := by
      unfold chn
      rw [List.filter_eq_self]
      intro x hx
      obtain ⟨_, h1, h2⟩ := mem_KL.1 hx
      rw [hroot x x (Nat.le_refl _) h1 h2, beq_self_eq_true]
    rw [hF]
    show [ent V l b l.length f] = _
    have he : eos V l b l.length f = b := by
      unfold eos
      rw [hC]
      obtain ⟨t, ht⟩ : ∃ t, (KL V 0 l.length).getLast? = some t := by rw [hfr]; exact ⟨_, List.getLast?_eq_some_getLast (by simp)⟩
      rw [ht]
      have htm := List.mem_of_getLast? ht
      obtain ⟨_, h1, h2⟩ := mem_KL.1 htm
      have hnx : nx V l.length (t + 1) = none := nx_none.2 fun x h3 h4 => by
        by_cases h0 : 0 ≤ V x
        · exfalso
          have hx : x ∈ KL V 0 l.length := mem_KL.2 ⟨Nat.zero_le _, h4, h0⟩
          have hu := KL_up V 0 l.length
          rcases snoc_or (KL V 0 l.length) with h5 | ⟨X, z, h5⟩
          · rw [h5] at hx; cases hx
          · rw [h5] at hu hx ht
            rw [List.getLast?_append] at ht
            obtain rfl : z = t := by simpa using ht
            rcases List.mem_append.1 hx with h6 | h6
            · have := (List.pairwise_append.1 hu).2.2 x h6 z (by simp)
              omega
            · obtain rfl := List.mem_singleton.1 h6
              omega
        · omega
      have hls : lst V l.length t = true := by unfold lst; rw [hnx]
      have hni : ¬ ini (at' l t) = true := fun hc => by
        have h3 : at' l t = 19 ∨ at' l t = 20 ∨ at' l t = 21 := by simpa [ini] using hc
        have := h t h1
        omega
      dsimp only
      have hnt : nxt V l t = none := by
        unfold nxt
        rw [if_pos hls, if_neg (fun hc => hni hc.1)]
      rw [hnt, if_neg (by decide), hV f f1 f2]
      unfold bh
      rw [if_neg (fun hc => hni hc.1), hnx]
      exact hw
    unfold ent
    rw [he, hC, hpf, hV f f1 f2]
    show [(⟨b, wy b b, b, _⟩ : S28)] = _
    rw [hw]
theorem one_l0 (l : List Int) (a1 : Int) (hl : l.length ≤ 500) : ∀ n i, i + n = l.length → (∀ j, j < i → at' l j < 14 ∨ 22 < at' l j) → Ev (fun k => parquetrylaw12_SeqsOne.l0 k l a1 ((KL (lv l (Go.bits .and .i64 a1 1)) 0 i).length : Int) (i : Int)) true := by
  have hb := and_one a1
  generalize hbe : Go.bits .and .i64 a1 1 = b at hb
  intro n
  induction n with
  | zero =>
    intro i hi h
    obtain rfl : i = l.length := by omega
    refine Ev.succ ?_
    simp only [parquetrylaw12_SeqsOne.l0, hbe]
    refine Ev.ifn (by omega) (Ev.bind (seqs_ev l (by omega) b hb) ?_)
    rw [one_sqs l b hb h]
    by_cases hK : KL (lv l b) 0 l.length = []
    · rw [if_pos hK, hK]
      exact Ev.ifp rfl (Ev.ifp rfl (Ev.bind awake_ev (Ev.now _)))
    · rw [if_neg hK]
      have hp : 0 < (KL (lv l b) 0 l.length).length := List.length_pos_iff.2 hK
      refine Ev.ifn (by omega) ?_
      have hn : (PC12.nums (KL (lv l b) 0 l.length)).length = (KL (lv l b) 0 l.length).length := by unfold PC12.nums; rw [List.length_map]
      rcases hb with rfl | rfl
      · exact Ev.ifn (by decide) (Ev.ifp rfl (Ev.ifp (by simp) (Ev.ifp (by show ((PC12.nums _).length : Int) = _; rw [hn]) (Ev.ifp rfl (Ev.ifp rfl (Ev.ifp rfl (Ev.bind awake_ev (Ev.now _))))))))
      · exact Ev.ifp rfl (Ev.ifp rfl (Ev.ifp (by simp) (Ev.ifp (by show ((PC12.nums _).length : Int) = _; rw [hn]) (Ev.ifp rfl (Ev.ifp rfl (Ev.ifp rfl (Ev.bind awake_ev (Ev.now _))))))))
  | succ n ih =>
    intro i hi h
    refine Ev.succ ?_
    simp only [parquetrylaw12_SeqsOne.l0]
    have hr : rd l (i : Int) = at' l i := rfl
    have hnext : (at' l i < 14 ∨ 22 < at' l i) → Ev (fun k => parquetrylaw12_SeqsOne.j1 k l a1 ((KL (lv l b) 0 i).length : Int) (i : Int) false) true := by
      intro hp
      refine Ev.succ ?_
      simp only [parquetrylaw12_SeqsOne.j1]
      refine Ev.ifn (by decide) (Ev.ifp (by omega) (Ev.ifp (by omega) (Ev.bindc (by rw [hr]; exact removed_eq _) ?_)))
      have hs := ih (i + 1) (by omega) (fun j hj => by
        by_cases e : j = i
        · subst e; exact hp
        · exact h j (by omega))
      have hw : wrap64 ((i : Int) + 1) = ((i + 1 : Nat) : Int) := by rw [w64 (by omega) (by omega)]; omega
      rw [hw]
      have hlen := KL_len (lv l b) 0 i
      rw [KL_succ _ (Nat.zero_le _)] at hs
      by_cases hg : gone (at' l i) = true
      · rw [if_neg (fun h0 => by rw [(lv_kept l b hb i).1 h0] at hg; cases hg)] at hs
        exact Ev.ifp hg hs
      · have hg' : gone (at' l i) = false := by simpa using hg
        rw [if_pos ((lv_kept l b hb i).2 hg')] at hs
        have hw2 : wrap64 (((KL (lv l b) 0 i).length : Int) + 1) = ((KL (lv l b) 0 i ++ [i]).length : Int) := by rw [w64 (by omega) (by omega), List.length_append]; simp
        rw [hw2]
        exact Ev.ifn hg hs
    refine Ev.ifp (by omega) (Ev.ifp (by omega) ?_)
    rw [hr]
    by_cases h14 : at' l i ≥ 14
    · refine Ev.ifp h14 ?_
      by_cases h22 : at' l i ≤ 22
      · rw [decide_eq_true h22]
        refine Ev.succ ?_
        simp only [parquetrylaw12_SeqsOne.j1]
        exact Ev.ifp trivial (Ev.bind awake_ev (Ev.now _))
      · rw [decide_eq_false h22]
        exact hnext (.inr (by omega))
    · exact Ev.ifn h14 (hnext (.inl (by omega)))
theorem SeqsOne : parquetrylaw12_SeqsOne.Pure := by
  intro l a1 _ _ _ hw
  refine Ev.ex ?_
  unfold parquetrylaw12_SeqsOne.f
  by_cases hl : (l.length : Int) > 500
  · exact Ev.ifp hl (Ev.bind awake_ev (Ev.now _))
  · have := one_l0 l a1 (by omega) l.length 0 (by omega) (fun j hj => by omega)
    rw [KL_self] at this
    exact Ev.ifn hl this
end Go.Proofs.Ytdieknpikdepgaa.Pure
