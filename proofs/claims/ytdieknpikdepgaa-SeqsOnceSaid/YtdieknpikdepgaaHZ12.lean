/- Of each place which sequence has it: what the statements' own function tells of the program's sequences. Conditions: fewer than 1000 classes, a paragraph of the level 0 or 1. -/
import Derived.Test.YtdieknpikdepgaaPC12x14
import Derived.Test.YtdieknpikdepgaaHY12
namespace Go.Proofs.Ytdieknpikdepgaa.PC12
open Go.RowKit Go.Proofs.YtdieknpikdepgaaW.PrintWords Go.Proofs.YtdieknpikdepgaaW.PrintLast Go.Proofs.YtdieknpikdepgaaW.PrintMore Go.Proofs.YtdieknpikdepgaaH
set_option linter.unusedVariables false
set_option linter.unusedSimpArgs false

/-- Which sequence has a place. -/
def wh (V : Nat → Int) (l : List Int) (x : Nat) : Int := if 0 ≤ V x then ((idx V l (root V l x) : Nat) : Int) else -1
/-- The same, while sequence j is gone through, of which m places are done. -/
def whj (V : Nat → Int) (l : List Int) (j m f : Nat) (x : Nat) : Int := if 0 ≤ V x ∧ (idx V l (root V l x) < j ∨ (root V l x = f ∧ x ∈ (chn V l l.length f).take m)) then ((idx V l (root V l x) : Nat) : Int) else -1
theorem root_F {V : Nat → Int} {l : List Int} (H : Lv V l) {x : Nat} (hx : x < l.length) (h0 : 0 ≤ V x) : root V l x ∈ Fc V l l.length ∧ idx V l (root V l x) < (Fc V l l.length).length := by
  obtain ⟨a, b, c, d⟩ := root_made H x x (Nat.le_refl _) hx h0
  have hm : root V l x ∈ Fc V l l.length := mem_Fc.2 ⟨by omega, b, a⟩
  exact ⟨hm, (List.getElem?_eq_some_iff.1 (Fc_idx hm)).1⟩
theorem idx_of {V : Nat → Int} {l : List Int} {j f : Nat} (hf : (Fc V l l.length)[j]? = some f) : idx V l f = j := by
  have hm : f ∈ Fc V l l.length := List.mem_of_getElem? hf
  have h1 := Fc_idx hm
  have hs := Fc_up V l l.length
  obtain ⟨a1, a2⟩ := List.getElem?_eq_some_iff.1 hf
  obtain ⟨b1, b2⟩ := List.getElem?_eq_some_iff.1 h1
  rcases Nat.lt_trichotomy (idx V l f) j with h | h | h
  · have := List.pairwise_iff_getElem.1 hs _ _ b1 a1 h
    omega
  · exact h
  · have := List.pairwise_iff_getElem.1 hs _ _ a1 b1 h
    omega
theorem rd_map' (n : Nat) (g : Nat → Int) (i : Nat) (hi : i < n) : rd ((List.range n).map g) (i : Int) = g i := rd_map n g i hi
theorem set_map (n : Nat) (g h : Nat → Int) (x : Nat) (v : Int) (hv : g x = v) (hh : ∀ y, y < n → y ≠ x → g y = h y) : ((List.range n).map h).set x v = (List.range n).map g := by
  apply List.ext_getElem?
  intro i
  rw [List.getElem?_set, List.getElem?_map, List.getElem?_map]
  by_cases hi : i < n
  · rw [List.getElem?_range hi]
    by_cases e : x = i
    · subst e
      rw [if_pos rfl, if_pos (by simpa using hi)]
      show some v = some (g x)
      rw [hv]
    · rw [if_neg e]
      show some (h i) = some (g i)
      rw [hh i hi (fun h => e h.symm)]
  · rw [List.getElem?_eq_none (by simpa using Nat.not_lt.1 hi)]
    by_cases e : x = i
    · subst e
      rw [if_pos rfl, if_neg (by simpa using hi)]
      rfl
    · rw [if_neg e]
      rfl
theorem nums_at (L : List Nat) (m : Nat) (hm : m < L.length) : rd (nums L) (m : Int) = (L[m] : Int) := by
  unfold rd nums
  rw [Int.toNat_natCast, List.getD_eq_getElem?_getD, List.getElem?_map, List.getElem?_eq_getElem hm]
  rfl
theorem where_l2 {l : List Int} {b : Int} (hl : l.length < 1000) (hb : b = 0 ∨ b = 1) (j f : Nat) (hf : (Fc (lv l b) l l.length)[j]? = some f) (v : List Int) (hv : Ev (fun k => parquetrylaw12_where.l1 k (sqs l b) (l.length : Int) ((List.range l.length).map (whj (lv l b) l (j + 1) 0 0)) (wrap64 ((j : Int) + 1))) v) :
    ∀ s m, m + s = (chn (lv l b) l l.length f).length → Ev (fun k => parquetrylaw12_where.l2 k (sqs l b) (l.length : Int) ((List.range l.length).map (whj (lv l b) l j m f)) (j : Int) (m : Int)) v := by
  have H := lv_Lv l b hb
  have hjl : j < (Fc (lv l b) l l.length).length := (List.getElem?_eq_some_iff.1 hf).1
  have hFl := Fc_len (lv l b) l l.length
  have hsl : (sqs l b).length = (Fc (lv l b) l l.length).length := by unfold sqs; rw [List.length_map]
  have hrd : rd_T28 (sqs l b) (j : Int) = ent (lv l b) l b l.length f := by
    unfold rd_T28 sqs
    rw [Int.toNat_natCast, List.getD_eq_getElem?_getD, List.getElem?_map, hf]
    rfl
  have hf3 : (rd_T28 (sqs l b) (j : Int)).f3 = nums (chn (lv l b) l l.length f) := by rw [hrd]; rfl
  have hcl := chn_len (lv l b) l l.length f
  have hnl : (nums (chn (lv l b) l l.length f)).length = (chn (lv l b) l l.length f).length := by unfold nums; rw [List.length_map]
  have hij := idx_of hf
  have hj1 : (0 : Int) ≤ (j : Int) := by omega
  have hj2 : (j : Int) < ((sqs l b).length : Int) := by omega
  intro s
  induction s with
  | zero =>
    intro m hm
    refine Ev.succ ?_
    simp only [parquetrylaw12_where.l2, hf3]
    refine Ev.ifp (by omega) (Ev.ifp (by omega) (Ev.ifn (by rw [hnl]; omega) ?_))
    have e : (List.range l.length).map (whj (lv l b) l j m f) = (List.range l.length).map (whj (lv l b) l (j + 1) 0 0) := by
      refine List.map_congr_left fun x hx => ?_
      have hxl := List.mem_range.1 hx
      unfold whj
      by_cases h0 : 0 ≤ lv l b x
      · have hr := root_F H hxl h0
        by_cases h1 : root (lv l b) l x = f
        · rw [if_pos ⟨h0, .inr ⟨h1, by rw [List.take_of_length_le (by omega)]; exact mem_chn.2 ⟨hxl, h0, h1⟩⟩⟩, if_pos ⟨h0, .inl (by rw [h1, hij]; omega)⟩]
        · have hne : idx (lv l b) l (root (lv l b) l x) ≠ j := fun e => by
            have h2 := Fc_idx hr.1
            rw [e, hf] at h2
            exact h1 (Option.some.inj h2).symm
          by_cases h2 : idx (lv l b) l (root (lv l b) l x) < j
          · rw [if_pos ⟨h0, .inl h2⟩, if_pos ⟨h0, .inl (by omega)⟩]
          · rw [if_neg (fun h => h.2.elim h2 (fun h => h1 h.1)), if_neg (fun h => h.2.elim (fun h => by omega) (fun h => by simp at h))]
      · rw [if_neg (fun h => h0 h.1), if_neg (fun h => h0 h.1)]
    rw [e]
    exact hv
  | succ s ih =>
    intro m hm
    have hml : m < (chn (lv l b) l l.length f).length := by omega
    have hw : wrap64 ((m : Int) + 1) = ((m + 1 : Nat) : Int) := by rw [w64 (by omega) (by omega)]; omega
    have hw2 : m ≠ 0 → wrap64 ((m : Int) - 1) = ((m - 1 : Nat) : Int) := fun h => by rw [w64 (by omega) (by omega)]; omega
    have k1 : (m : Int) < ((nums (chn (lv l b) l l.length f)).length : Int) := by rw [hnl]; omega
    have k4 : m ≠ 0 → ((m - 1 : Nat) : Int) < ((nums (chn (lv l b) l l.length f)).length : Int) := fun h => by rw [hnl]; omega
    have k5 : m ≠ 0 → (m : Int) > 0 := fun h => by omega
    have hnext := ih (m + 1) (by omega)
    clear ih
    have hs := chn_up (lv l b) l l.length f
    have hmem : ∀ y ∈ chn (lv l b) l l.length f, y < l.length ∧ 0 ≤ lv l b y ∧ root (lv l b) l y = f := fun y hy => mem_chn.1 hy
    generalize hC : chn (lv l b) l l.length f = C at *
    obtain ⟨x, hx⟩ : ∃ x, C[m]? = some x := ⟨_, List.getElem?_eq_getElem hml⟩
    obtain ⟨x1, x2, x3⟩ := hmem x (List.mem_of_getElem? hx)
    have hat : rd (nums C) (m : Int) = (x : Int) := by
      rw [nums_at _ m hml]
      rw [List.getElem?_eq_getElem hml] at hx
      rw [Option.some.inj hx]
    have hlt : ∀ i y, i < m → C[i]? = some y → y < x := by
      intro i y hi hy
      obtain ⟨a1, a2⟩ := List.getElem?_eq_some_iff.1 hx
      obtain ⟨b1, b2⟩ := List.getElem?_eq_some_iff.1 hy
      have := List.pairwise_iff_getElem.1 hs i m b1 a1 hi
      rwa [a2, b2] at this
    have hnt : x ∉ C.take m := by
      intro h
      obtain ⟨i, hi⟩ := List.getElem?_of_mem h
      rw [List.getElem?_take] at hi
      split at hi
      · have := hlt i x (by assumption) hi
        omega
      · cases hi
    have htk : C.take (m + 1) = C.take m ++ [x] := by
      rw [List.take_add_one, hx]; rfl
    have hold : whj (lv l b) l j m f x = -1 := by
      unfold whj
      rw [if_neg]
      rintro ⟨_, h | h⟩
      · rw [x3, hij] at h; exact Nat.lt_irrefl _ h
      · exact hnt (hC ▸ h.2)
    have hset : ((List.range l.length).map (whj (lv l b) l j m f)).set ((x : Int)).toNat (j : Int) = (List.range l.length).map (whj (lv l b) l j (m + 1) f) := by
      rw [Int.toNat_natCast]
      refine set_map _ _ _ _ _ ?_ ?_
      · unfold whj
        rw [if_pos ⟨x2, .inr ⟨x3, by rw [hC, htk]; simp⟩⟩, x3, hij]
      · intro y hy hne
        unfold whj
        have : y ∈ C.take m ++ [x] ↔ y ∈ C.take m := by
          rw [List.mem_append]
          exact ⟨fun h => h.elim id (fun h => absurd (List.mem_singleton.1 h) hne), .inl⟩
        simp only [hC, htk, this]
    have k2 : ¬ (x : Int) < 0 := by omega
    have k3 : ¬ (x : Int) ≥ (l.length : Int) := by omega
    have k6 : (x : Int) < (((List.range l.length).map (whj (lv l b) l j m f)).length : Int) := by rw [List.length_map, List.length_range]; omega
    have k7 : m ≠ 0 → ¬ rd (nums C) ((m - 1 : Nat) : Int) ≥ (x : Int) := fun h => by
      have h1 : m - 1 < C.length := by omega
      rw [nums_at _ _ h1]
      have := hlt (m - 1) _ (by omega) (List.getElem?_eq_getElem h1)
      omega
    clear hlt hnt htk x2 x3 hx hmem hs
    refine Ev.succ ?_
    simp only [parquetrylaw12_where.l2, hf3, hat]
    refine Ev.ifp hj1 ?_
    refine Ev.ifp hj2 ?_
    refine Ev.ifp k1 ?_
    refine Ev.ifp (Int.natCast_nonneg m) ?_
    refine Ev.ifn k2 ?_
    refine Ev.ifn k3 ?_
    refine Ev.ifp (Int.natCast_nonneg x) ?_
    refine Ev.ifp k6 ?_
    refine Ev.ifp (by rw [rd_map' _ _ _ x1, hold]) ?_
    rw [hset, hw]
    by_cases h0 : m = 0
    · subst h0
      exact Ev.ifn (by decide) hnext
    · refine Ev.ifp (k5 h0) ?_
      rw [hw2 h0]
      refine Ev.ifp (Int.natCast_nonneg _) ?_
      refine Ev.ifp (k4 h0) ?_
      exact Ev.ifn (k7 h0) hnext
theorem where_l1 {l : List Int} {b : Int} (hl : l.length < 1000) (hb : b = 0 ∨ b = 1) : ∀ s j, j + s = (sqs l b).length → Ev (fun k => parquetrylaw12_where.l1 k (sqs l b) (l.length : Int) ((List.range l.length).map (whj (lv l b) l j 0 0)) (j : Int)) ((List.range l.length).map (wh (lv l b) l)) := by
  have H := lv_Lv l b hb
  have hFl := Fc_len (lv l b) l l.length
  have hsl : (sqs l b).length = (Fc (lv l b) l l.length).length := by unfold sqs; rw [List.length_map]
  intro s
  induction s with
  | zero =>
    intro j hj
    refine Ev.succ ?_
    simp only [parquetrylaw12_where.l1]
    refine Ev.ifn (by omega) ?_
    have e : (List.range l.length).map (whj (lv l b) l j 0 0) = (List.range l.length).map (wh (lv l b) l) := by
      refine List.map_congr_left fun x hx => ?_
      unfold whj wh
      by_cases h0 : 0 ≤ lv l b x
      · have := (root_F H (List.mem_range.1 hx) h0).2
        rw [if_pos ⟨h0, .inl (by omega)⟩, if_pos h0]
      · rw [if_neg (fun h => h0 h.1), if_neg h0]
    rw [e]
    exact Ev.now _
  | succ s ih =>
    intro j hj
    have hjl : j < (Fc (lv l b) l l.length).length := by omega
    have hw : wrap64 ((j : Int) + 1) = ((j + 1 : Nat) : Int) := by rw [w64 (by omega) (by omega)]; omega
    refine Ev.succ ?_
    simp only [parquetrylaw12_where.l1]
    refine Ev.ifp (by omega) ?_
    have := where_l2 hl hb j _ (List.getElem?_eq_getElem hjl) _ (by rw [hw]; exact ih (j + 1) (by omega)) _ 0 (Nat.zero_add _)
    have e : (List.range l.length).map (whj (lv l b) l j 0 ((Fc (lv l b) l l.length)[j])) = (List.range l.length).map (whj (lv l b) l j 0 0) := by
      refine List.map_congr_left fun x hx => ?_
      unfold whj
      simp only [List.take_zero, List.not_mem_nil, and_false]
    rw [e] at this
    exact this
theorem where_l0 {l : List Int} {b : Int} (hl : l.length < 1000) (hb : b = 0 ∨ b = 1) : ∀ s i, i + s = l.length → Ev (fun k => parquetrylaw12_where.l0 k (sqs l b) (l.length : Int) (List.replicate i (-1)) (i : Int)) ((List.range l.length).map (wh (lv l b) l)) := by
  intro s
  induction s with
  | zero =>
    intro i hi
    obtain rfl : i = l.length := by omega
    refine Ev.succ ?_
    simp only [parquetrylaw12_where.l0]
    refine Ev.ifn (by omega) ?_
    have e : List.replicate l.length (-1) = (List.range l.length).map (whj (lv l b) l 0 0 0) := by
      refine (List.eq_replicate_iff.2 ⟨by simp, fun y hy => ?_⟩).symm
      obtain ⟨x, _, rfl⟩ := List.mem_map.1 hy
      unfold whj
      rw [if_neg]
      rintro ⟨_, h | h⟩
      · omega
      · simp at h
    rw [e]
    exact where_l1 hl hb _ 0 (Nat.zero_add _)
  | succ s ih =>
    intro i hi
    have hw : wrap64 ((i : Int) + 1) = ((i + 1 : Nat) : Int) := by rw [w64 (by omega) (by omega)]; omega
    refine Ev.succ ?_
    simp only [parquetrylaw12_where.l0]
    rw [hw]
    have := ih (i + 1) (by omega)
    rw [List.replicate_succ'] at this
    exact Ev.ifp (by omega) (Ev.ifp (by simp; omega) this)
theorem where_ev {l : List Int} {b : Int} (hl : l.length < 1000) (hb : b = 0 ∨ b = 1) : Ev (fun k => parquetrylaw12_where.f k (sqs l b) (l.length : Int)) ((List.range l.length).map (wh (lv l b) l)) := by
  unfold parquetrylaw12_where.f
  exact where_l0 hl hb l.length 0 (by omega)
end Go.Proofs.Ytdieknpikdepgaa.PC12
