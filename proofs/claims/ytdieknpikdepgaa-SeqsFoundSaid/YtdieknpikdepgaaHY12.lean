/- The program's sequences of classes, in a paragraph of the level 0 or 1, told by places. Conditions: fewer than 100000 classes. -/
import Derived.Test.YtdieknpikdepgaaHV12
import Derived.Test.YtdieknpikdepgaaHW12
import Derived.Test.YtdieknpikdepgaaPC12x6
namespace Go.Proofs.Ytdieknpikdepgaa.PC12
open Go.RowKit Go.Proofs.YtdieknpikdepgaaW.PrintWords Go.Proofs.YtdieknpikdepgaaW.PrintLast Go.Proofs.YtdieknpikdepgaaW.PrintMore Go.Proofs.YtdieknpikdepgaaH
set_option linter.unusedVariables false
set_option linter.unusedSimpArgs false

theorem lv_made (l : List Int) (b : Int) (hb : b ≤ 125) (i : Nat) (h : ¬ (gone (at' l i) = true)) : b ≤ lv l b i ∧ lv l b i ≤ 125 := by
  have g := PC12.Good.sat l hb i
  have h1 := g.all _ g.top
  have h2 := g.pdi.all _ g.pdi.top
  unfold lv level_Explicit.at1
  rw [if_neg h]
  split
  · exact ⟨Int.le_refl _, hb⟩
  split
  · exact ⟨h2.1, h2.2.1⟩
  · exact ⟨h1.1, h1.2.1⟩
theorem lv_kept (l : List Int) (b : Int) (hb : b = 0 ∨ b = 1) (i : Nat) : 0 ≤ lv l b i ↔ gone (at' l i) = false := by
  constructor
  · intro h
    cases hg : gone (at' l i) with
    | false => rfl
    | true =>
      unfold lv at h
      rw [if_pos hg] at h
      omega
  · intro h
    have := (lv_made l b (by omega) i (by rw [h]; decide)).1
    omega
theorem lv_Lv (l : List Int) (b : Int) (hb : b = 0 ∨ b = 1) : Lv (lv l b) l where
  kini := fun k hk h => (lv_kept l b hb k).2 (gone_ini h)
  kpdi := fun k hk h => (lv_kept l b hb k).2 (by rw [h]; decide)
  kpair := fun k i hki hi h h22 ho => (pair_lv l b k i hki hi h h22 ho).1
/-- The sequences. -/
def sqs (l : List Int) (b : Int) : List S28 := (Fc (lv l b) l l.length).map (ent (lv l b) l b l.length)
theorem KL_empty {V : Nat → Int} {c : Nat} (h : ∀ x, x < c → V x < 0) : KL V 0 c = [] := by
  rw [List.eq_nil_iff_forall_not_mem]
  intro x hx
  obtain ⟨_, h1, h2⟩ := mem_KL.1 hx
  have := h x h1
  omega
theorem seqs_ev (l : List Int) (hl : l.length < 100000) (b : Int) (hb : b = 0 ∨ b = 1) : Ev (fun k => seqs_Sequences.f k l b) (sqs l b) := by
  unfold seqs_Sequences.f
  refine Ev.bind (explicit_ev l hl b hb) (Ev.bind (match_ev l (by omega)) ?_)
  have hR := runs_Rn (lv l b) l.length
  have hf : seqs_runs.f ((List.range l.length).map (lv l b)) = some (seqs_runs.all (seqs_runs.kp 0 ((List.range l.length).map (lv l b)))) := by
    unfold seqs_runs.f
    rw [if_pos (by simp; omega)]
  refine Ev.bindc hf ?_
  generalize seqs_runs.all (seqs_runs.kp 0 ((List.range l.length).map (lv l b))) = R at hR
  refine Ev.ifp (by have := hR.len; omega) ?_
  have H := lv_Lv l b hb
  have key : ∀ c, Nc l.length c R → (∀ x, x < c → lv l b x < 0) → seqs_Sequences.lp R b l (mAll l) R.length 0 [] [] = some (sqs l b) := by
    intro c h1 h2
    have hF : Fc (lv l b) l c = [] := by
      unfold Fc
      rw [KL_empty h2]
      rfl
    have := lp_spec H b hl R hR R.length [] R c [] rfl rfl h1 (fun q g1 g2 g3 g4 => by
      cases hp : pred (lv l b) l q with
      | none => rfl
      | some t =>
        rw [Option.bind_some, if_neg]
        · rfl
        · intro ht
          have h3 := (pred_lt H g2 hp).2.1
          have := h2 t ht
          omega) (Nat.le_refl _)
    rw [hF] at this
    exact this
  have hk : seqs_Sequences.lp R b l (mAll l) R.length 0 [] [] = some (sqs l b) := by
    cases R with
    | nil => exact key l.length rfl hR.empty
    | cons r B =>
      obtain ⟨c, d, t, h1, f, _⟩ := Rn.split [] r B.length B _ rfl hR
      exact key c f.f1 h1.empty
  rw [hk]
  exact Ev.now _
theorem awake_ev : Ev (fun k => parquetrylaw12_awake.f k) true := Ev.now _
end Go.Proofs.Ytdieknpikdepgaa.PC12
