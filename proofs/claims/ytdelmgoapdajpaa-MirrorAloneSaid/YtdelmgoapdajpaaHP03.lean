/- The plain law of chapter 3: mirror.find's table is the document's; outside of its rows nothing has a counterpart. Conditions: none. -/
import Derived.Test.YtdelmgoapdajpaaPC03x3
import Derived.Test.YtdelmgoapdajpaaHEv
namespace Go.Proofs.Ytdelmgoapdajpaa.PC03
open Go.RowKit Go.Proofs.YtdelmgoapdajpaaW.PrintWords Go.Proofs.YtdelmgoapdajpaaW.PrintLast Go.Proofs.YtdelmgoapdajpaaW.PrintMore Go.Proofs.YtdelmgoapdajpaaH
set_option linter.unusedVariables false
set_option linter.unusedSimpArgs false

/-- Does a number stand in a row? -/
def hit (c : Int) : Prop := ∃ j, j < 38 ∧ (mirror_find.row j).f ≤ c ∧ c ≤ (mirror_find.row j).t
theorem val_out (c : Int) (h : ¬ hit c) : mirror_find.val c = (0, 0, false) := by
  unfold mirror_find.val
  rw [if_neg]
  rintro ⟨h1, h2⟩
  exact h ⟨_, h1, h2, mirror_find.at_here c h1⟩
def pairV (c : Int) : Int × Int := if (mirror_find.val c).2.2 = true then ((mirror_find.val c).1, (mirror_find.val c).2.1) else (0, 0)
theorem pair_eq (c : Int) : mirror_Pair.f c = some (pairV c) := by
  unfold mirror_Pair.f mirror_find.f pairV
  simp only [Option.bind_some]
  split <;> rfl
def glyphV (c : Int) : Int := if (mirror_find.val c).1 > 0 then (mirror_find.val c).2.1 else c
theorem glyph_eq (c : Int) : mirror_Glyph.f c = some (glyphV c) := by
  unfold mirror_Glyph.f mirror_find.f glyphV
  simp only [Option.bind_some]
  split <;> rfl
def formV (c : Int) : Int := if c = 9001 then 12296 else if c = 9002 then 12297 else c
theorem form_eq (c : Int) : mirror_Form.f c = some (formV c) := by
  unfold mirror_Form.f formV
  split
  · rename_i h; subst h; decide +kernel
  · split
    · rename_i h; subst h; decide +kernel
    · rfl
theorem refForm_eq (c : Int) : parquetryref03_Form.f c = some (formV c) := by
  unfold parquetryref03_Form.f formV
  split
  · rfl
  · split <;> rfl
def meetV (a b : Int) : Bool := (pairV a).1 == 1 && ((pairV b).1 == 2 && formV (pairV a).2 == formV b)
theorem meet_eq (a b : Int) : mirror_Meet.f a b = some (meetV a b) := by
  unfold mirror_Meet.f meetV
  simp only [pair_eq, form_eq, Option.bind_some]
  split
  · rename_i h1
    split
    · rename_i h2; simp [h1, h2]
    · rename_i h2; simp [h1, h2]
  · rename_i h1; simp [h1]
theorem pair_out (c : Int) (h : ¬ hit c) : pairV c = (0, 0) := by unfold pairV; rw [val_out c h]; rfl
theorem glyph_out (c : Int) (h : ¬ hit c) : glyphV c = c := by unfold glyphV; rw [val_out c h]; rfl
set_option maxRecDepth 100000 in
theorem awake_eq : parquetrylaw03_awake.f = some true := by
  unfold parquetrylaw03_awake.f parquetrylaw03_pair.f
  simp only [pair_eq, form_eq, meet_eq, glyph_eq, Option.bind_some]
  decide +kernel
/-- What holds of each number that stands in a row is shown number by number. -/
theorem each_hit (p : Int → Bool) (h : ∀ j : Fin 38, ∀ i : Fin 28, (mirror_find.row j.val).f + (i.val : Nat) ≤ (mirror_find.row j.val).t → p ((mirror_find.row j.val).f + (i.val : Nat)) = true)
    (c : Int) (hc : hit c) : p c = true := by
  obtain ⟨j, hj, h1, h2⟩ := hc
  have hw : ∀ j : Fin 38, (mirror_find.row j.val).t - (mirror_find.row j.val).f < 28 := by decide +kernel
  have := hw ⟨j, hj⟩
  simp only at this
  have e : (mirror_find.row j).f + ((c - (mirror_find.row j).f).toNat : Nat) = c := by omega
  have := h ⟨j, hj⟩ ⟨(c - (mirror_find.row j).f).toNat, by omega⟩ (by simp only; omega)
  simp only [e] at this
  exact this
/-! the document's side -/
def outR (c : Int) : List Int → Prop
  | a :: b :: r => (c < a ∨ b < c) ∧ (0 ≤ a ∧ a ≤ b) ∧ b < 100000 ∧ (b - a) % 2 = 1 ∧ outR c r
  | _ => True
theorem rows_l1 (L : List Int) (c a b : Int) (i : Nat) (hi : i + 1 < L.length) (hlen : L.length < 1000) (hb : rd L ((i : Int) + 1) = b) (hc : c < a ∨ b < c) (ha : 0 ≤ a) (hbb : b < 100000) (hodd : (b - a) % 2 = 1)
    (h : Ev (fun k => parquetryref03_inRows.l0 k L c ((i + 2 : Nat) : Int)) (0, 0)) : ∀ (n : Nat) (x : Int), b - x ≤ 2 * n → a ≤ x → x < 200000 → (x - a) % 2 = 0 → Ev (fun k => parquetryref03_inRows.l1 k L c (i : Int) x) (0, 0)
  | n, x, hn, hax, hx, hm => by
    refine Ev.succ ?_
    simp only [parquetryref03_inRows.l1]
    rw [w64 (x := (i : Int) + 1) (by omega) (by omega), hb]
    refine Ev.ifp (by omega) (Ev.ifp (by omega) ?_)
    by_cases hlt : x < b
    · cases n with
      | zero => omega
      | succ n =>
        rw [w64 (x := x + 1) (by omega) (by omega), w64 (x := x + 2) (by omega) (by omega)]
        exact Ev.ifp hlt (Ev.ifn (by omega) (Ev.ifn (by omega) (rows_l1 L c a b i hi hlen hb hc ha hbb hodd h n (x + 2) (by omega) (by omega) (by omega) (by omega))))
    · refine Ev.ifn hlt ?_
      rw [w64 (x := (i : Int) + 2) (by omega) (by omega), show (i : Int) + 2 = ((i + 2 : Nat) : Int) by omega]
      exact h
theorem rd_two (pre : List Int) (a b : Int) (r : List Int) : rd (pre ++ a :: b :: r) (pre.length : Int) = a ∧ rd (pre ++ a :: b :: r) ((pre.length : Int) + 1) = b := by
  unfold rd
  constructor
  · rw [Int.toNat_natCast, List.getD_eq_getElem?_getD, List.getElem?_append_right (Nat.le_refl _), Nat.sub_self]
    rfl
  · rw [show ((pre.length : Int) + 1).toNat = pre.length + 1 by omega, List.getD_eq_getElem?_getD, List.getElem?_append_right (by omega), show pre.length + 1 - pre.length = 1 by omega]
    rfl
theorem rows_none (L : List Int) (c : Int) (hlen : L.length < 1000) : ∀ (r pre : List Int), L = pre ++ r → r.length % 2 = 0 → outR c r → Ev (fun k => parquetryref03_inRows.l0 k L c (pre.length : Int)) (0, 0)
  | [], pre, h, _, _ => by
    refine Ev.succ ?_
    simp only [parquetryref03_inRows.l0]
    exact Ev.ifn (by rw [h]; simp) (Ev.now _)
  | [_], pre, h, he, _ => by simp at he
  | a :: b :: r, pre, h, he, ho => by
    obtain ⟨h1, ⟨h2, h2'⟩, h3, h4, h5⟩ := ho
    have hl : L.length = pre.length + (r.length + 2) := by rw [h]; simp
    obtain ⟨e1, e2⟩ := rd_two pre a b r
    rw [← h] at e1 e2
    have ih := rows_none L c hlen r (pre ++ [a, b]) (by rw [h]; simp) (by simp only [List.length_cons] at he; omega) h5
    rw [show (pre ++ [a, b]).length = pre.length + 2 by simp] at ih
    refine Ev.succ ?_
    simp only [parquetryref03_inRows.l0]
    rw [e1]
    refine Ev.ifp (by omega) (Ev.ifp (by omega) ?_)
    exact rows_l1 L c a b pre.length (by omega) hlen e2 h1 h2 h3 h4 ih 100000 a (by omega) (by omega) (by omega) (by omega)
theorem pairs_none (L : List Int) (c : Int) (hlen : L.length < 1000) : ∀ (r pre : List Int), L = pre ++ r → r.length % 2 = 0 → c ∉ r → Ev (fun k => parquetryref03_inPairs.l0 k L c (pre.length : Int)) (0, 0)
  | [], pre, h, _, _ => by
    refine Ev.succ ?_
    simp only [parquetryref03_inPairs.l0]
    exact Ev.ifn (by rw [h]; simp) (Ev.now _)
  | [_], pre, h, he, _ => by simp at he
  | a :: b :: r, pre, h, he, ho => by
    have hl : L.length = pre.length + (r.length + 2) := by rw [h]; simp
    obtain ⟨e1, e2⟩ := rd_two pre a b r
    rw [← h] at e1 e2
    simp only [List.mem_cons, not_or] at ho
    obtain ⟨h1, h2, h3⟩ := ho
    have ih := pairs_none L c hlen r (pre ++ [a, b]) (by rw [h]; simp) (by simp only [List.length_cons] at he; omega) h3
    rw [show (((pre ++ [a, b]).length : Nat) : Int) = (pre.length : Int) + 2 by simp] at ih
    refine Ev.succ ?_
    simp only [parquetryref03_inPairs.l0]
    rw [w64 (x := (pre.length : Int) + 1) (by omega) (by omega), w64 (x := (pre.length : Int) + 2) (by omega) (by omega), e1, e2]
    exact Ev.ifp (by omega) (Ev.ifp (by omega) (Ev.ifn h1 (Ev.ifp (by omega) (Ev.ifp (by omega) (Ev.ifn h2 ih)))))
/-- Do a list's stretches all lie in rows? -/
def inRow (a b : Int) : Bool := (List.range 38).any fun j => decide ((mirror_find.row j).f ≤ a) && decide (b ≤ (mirror_find.row j).t)
theorem inRow_hit (a b c : Int) (h : inRow a b = true) (h1 : a ≤ c) (h2 : c ≤ b) : hit c := by
  unfold inRow at h
  rw [List.any_eq_true] at h
  obtain ⟨j, hj, hh⟩ := h
  simp only [Bool.and_eq_true, decide_eq_true_eq] at hh
  exact ⟨j, List.mem_range.1 hj, by omega, by omega⟩
def okR : List Int → Bool
  | a :: b :: r => inRow a b && (decide (0 ≤ a) && (decide (a ≤ b) && (decide (b < 100000) && (decide ((b - a) % 2 = 1) && okR r))))
  | _ => true
theorem out_okR (c : Int) (hc : ¬ hit c) : ∀ l, okR l = true → outR c l
  | a :: b :: r, h => by
    simp only [okR, Bool.and_eq_true, decide_eq_true_eq] at h
    obtain ⟨h1, h2, h3, h4, h5, h6⟩ := h
    refine ⟨?_, ⟨h2, h3⟩, h4, h5, out_okR c hc r h6⟩
    by_cases h7 : c < a
    · exact Or.inl h7
    · by_cases h8 : b < c
      · exact Or.inr h8
      · exact absurd (inRow_hit a b c h1 (by omega) (by omega)) hc
  | [_], _ => trivial
  | [], _ => trivial
theorem out_okM (c : Int) (hc : ¬ hit c) (l : List Int) (h : l.all (fun x => inRow x x) = true) : c ∉ l := by
  intro hm
  exact hc (inRow_hit c c c (List.all_eq_true.1 h c hm) (Int.le_refl _) (Int.le_refl _))
def bracketsL : List Int := (parquetryref03_brackets.f).getD []
def othersL : List Int := (parquetryref03_others.f).getD []
def loneT : List Int := (parquetryref03_lone.f true).getD []
def loneF : List Int := (parquetryref03_lone.f false).getD []
set_option maxRecDepth 100000 in
theorem tables : okR bracketsL = true ∧ okR othersL = true ∧ loneT.all (fun x => inRow x x) = true ∧ loneF.all (fun x => inRow x x) = true := by decide +kernel
theorem brackets_out (c : Int) (h : ¬ hit c) : Ev (fun k => parquetryref03_inRows.f k bracketsL c) (0, 0) := by
  unfold parquetryref03_inRows.f
  exact rows_none bracketsL c (by decide +kernel) bracketsL [] rfl (by decide +kernel) (out_okR c h _ tables.1)
theorem others_out (c : Int) (h : ¬ hit c) : Ev (fun k => parquetryref03_inRows.f k othersL c) (0, 0) := by
  unfold parquetryref03_inRows.f
  exact rows_none othersL c (by decide +kernel) othersL [] rfl (by decide +kernel) (out_okR c h _ tables.2.1)
theorem loneT_out (c : Int) (h : ¬ hit c) : Ev (fun k => parquetryref03_inPairs.f k loneT c) (0, 0) := by
  unfold parquetryref03_inPairs.f
  exact pairs_none loneT c (by decide +kernel) loneT [] rfl (by decide +kernel) (out_okM c h _ tables.2.2.1)
theorem loneF_out (c : Int) (h : ¬ hit c) : Ev (fun k => parquetryref03_inPairs.f k loneF c) (0, 0) := by
  unfold parquetryref03_inPairs.f
  exact pairs_none loneF c (by decide +kernel) loneF [] rfl (by decide +kernel) (out_okM c h _ tables.2.2.2)
set_option maxRecDepth 100000 in
theorem refPair_hit (c : Int) (h : hit c) : parquetryref03_Pair.f 300 c = some (pairV c) :=
  of_decide_eq_true (each_hit (fun c => decide (parquetryref03_Pair.f 300 c = some (pairV c))) (by decide +kernel) c h)
theorem refPair_ev (c : Int) : Ev (fun k => parquetryref03_Pair.f k c) (pairV c) := by
  by_cases h : hit c
  · exact Ev.of (fun k => parquetryref03_Pair.mono c k) (refPair_hit c h)
  · rw [pair_out c h]
    unfold parquetryref03_Pair.f
    refine Ev.bindc (show parquetryref03_brackets.f = some bracketsL from rfl) (Ev.bind (brackets_out c h) (Ev.ifp rfl ?_))
    exact Ev.bindc (show parquetryref03_lone.f true = some loneT from rfl) (Ev.bind (loneT_out c h) (Ev.now _))
set_option maxRecDepth 100000 in
theorem refGlyph_hit (c : Int) (h : hit c) : parquetryref03_Glyph.f 300 c = some (glyphV c) :=
  of_decide_eq_true (each_hit (fun c => decide (parquetryref03_Glyph.f 300 c = some (glyphV c))) (by decide +kernel) c h)
theorem refGlyph_ev (c : Int) : Ev (fun k => parquetryref03_Glyph.f k c) (glyphV c) := by
  by_cases h : hit c
  · exact Ev.of (fun k => parquetryref03_Glyph.mono c k) (refGlyph_hit c h)
  · have hp := refPair_ev c
    rw [pair_out c h] at hp
    rw [glyph_out c h]
    unfold parquetryref03_Glyph.f
    refine Ev.bind hp (Ev.ifp rfl (Ev.bindc (show parquetryref03_others.f = some othersL from rfl) (Ev.bind (others_out c h) (Ev.succ ?_))))
    simp only [parquetryref03_Glyph.j0]
    exact Ev.ifp (by trivial) (Ev.bindc (show parquetryref03_lone.f false = some loneF from rfl) (Ev.bind (loneF_out c h) (Ev.ifp rfl (Ev.now _))))
end Go.Proofs.Ytdelmgoapdajpaa.PC03
