/- The sequences: what the program's loop over the runs leaves, told by places. Conditions: the levels are as explicit ones are. -/
import Derived.Test.YtdieknpikdepgaaPC12x4
import Derived.Test.YtdieknpikdepgaaHM12
import Derived.Test.YtdieknpikdepgaaHU12
namespace Go.Proofs.Ytdieknpikdepgaa.PC12
open Go.RowKit Go.Proofs.YtdieknpikdepgaaW.PrintWords Go.Proofs.YtdieknpikdepgaaW.PrintLast Go.Proofs.YtdieknpikdepgaaW.PrintMore Go.Proofs.YtdieknpikdepgaaH
set_option linter.unusedVariables false
set_option linter.unusedSimpArgs false

/-- The direction of the greater level. -/
def wy (a b : Int) : Int := if (Go.bits .and .i64 (mx a b) 1) = 1 then 1 else 0
theorem way_eq (a b : Int) : seqs_way.f a b = some (wy a b) := by
  unfold seqs_way.f wy
  split <;> rfl
/-- First places. -/
def Fc (V : Nat → Int) (l : List Int) (c : Nat) : List Nat := (KL V 0 c).filter fun i => (pred V l i).isNone
/-- The places of a sequence, ahead of a place. -/
def chn (V : Nat → Int) (l : List Int) (c i : Nat) : List Nat := (KL V 0 c).filter fun x => root V l x == i
def lev0 (V : Nat → Int) (para : Int) : Option Nat → Int
  | none => para
  | some q => V q
/-- The level behind a sequence that ends at a place. -/
def bh (V : Nat → Int) (l : List Int) (para : Int) (t : Nat) : Int := if ini (at' l t) = true ∧ endOf l t = l.length then para else lev0 V para (nx V l.length (t + 1))
def eos (V : Nat → Int) (l : List Int) (para : Int) (c i : Nat) : Int := match (chn V l c i).getLast? with
  | none => 0
  | some t => if (nxt V l t).isSome = true then 0 else wy (V i) (bh V l para t)
def nums (L : List Nat) : List Int := L.map fun x : Nat => (x : Int)
/-- A sequence, as far as it is told ahead of a place. -/
def ent (V : Nat → Int) (l : List Int) (para : Int) (c i : Nat) : S28 := ⟨V i, wy (V i) (lev0 V para (prv V i)), eos V l para c i, nums (chn V l c i)⟩
def idx (V : Nat → Int) (l : List Int) (i : Nat) : Nat := (Fc V l i).length
theorem mem_Fc {V : Nat → Int} {l : List Int} {c i : Nat} : i ∈ Fc V l c ↔ i < c ∧ 0 ≤ V i ∧ pred V l i = none := by
  unfold Fc
  rw [List.mem_filter, mem_KL, Option.isNone_iff_eq_none]
  constructor
  · rintro ⟨⟨_, h1, h2⟩, h3⟩; exact ⟨h1, h2, h3⟩
  · rintro ⟨h1, h2, h3⟩; exact ⟨⟨Nat.zero_le _, h1, h2⟩, h3⟩
theorem mem_chn {V : Nat → Int} {l : List Int} {c i x : Nat} : x ∈ chn V l c i ↔ x < c ∧ 0 ≤ V x ∧ root V l x = i := by
  unfold chn
  rw [List.mem_filter, mem_KL, beq_iff_eq]
  constructor
  · rintro ⟨⟨_, h1, h2⟩, h3⟩; exact ⟨h1, h2, h3⟩
  · rintro ⟨h1, h2, h3⟩; exact ⟨⟨Nat.zero_le _, h1, h2⟩, h3⟩
theorem chn_up (V : Nat → Int) (l : List Int) (c i : Nat) : (chn V l c i).Pairwise (· < ·) := (KL_up V 0 c).filter _
theorem Fc_up (V : Nat → Int) (l : List Int) (c : Nat) : (Fc V l c).Pairwise (· < ·) := (KL_up V 0 c).filter _
theorem Fc_idx {V : Nat → Int} {l : List Int} {c i : Nat} (h : i ∈ Fc V l c) : (Fc V l c)[idx V l i]? = some i := by
  obtain ⟨h1, h2, h3⟩ := mem_Fc.1 h
  unfold idx Fc
  rw [KL_split V (Nat.zero_le i) (show i ≤ c by omega), List.filter_append, List.getElem?_append_right (Nat.le_refl _), Nat.sub_self, KL_cons V h1, if_pos h2, List.filter_cons, if_pos (by rw [h3]; rfl)]
  rfl
theorem last_of {L : List Nat} (hs : L.Pairwise (· < ·)) {t : Nat} (ht : t ∈ L) (hm : ∀ x ∈ L, x ≤ t) : L.getLast? = some t := by
  rcases snoc_or L with rfl | ⟨X, z, rfl⟩
  · cases ht
  · rw [List.getLast?_append]
    have hz := hm z (by simp)
    rcases List.mem_append.1 ht with h | h
    · have := (List.pairwise_append.1 hs).2.2 t h z (by simp)
      omega
    · obtain rfl := List.mem_singleton.1 h
      rfl
/-- Within a run. -/
theorem in_run {V : Nat → Int} {l : List Int} {c d t : Nat} {r : S41} (f : Rf V c d t r) {x : Nat} (h1 : c < x) (h2 : x < d) (h3 : 0 ≤ V x) : bgn V x = false ∧ ∃ q, pred V l x = some q ∧ c ≤ q ∧ q < x ∧ 0 ≤ V q := by
  cases hq : prv V x with
  | none => have := prv_none.1 hq c h1; have := f.k; omega
  | some q =>
    have h6 := prv_some.1 hq
    have h7 : c ≤ q := by
      by_cases hc : c ≤ q
      · exact hc
      · have := h6.2.2 c (by omega) h1
        have := f.k
        omega
    have h8 := f.lv q h7 (by omega) h6.2.1
    have h9 := f.lv x (by omega) h2 h3
    have hb : bgn V x = false := bgn_false.2 ⟨q, hq, by rw [h8, h9]⟩
    refine ⟨hb, q, ?_, h7, h6.1, h6.2.1⟩
    unfold pred
    rw [hb, if_neg (by decide)]
    exact hq
theorem run_root {V : Nat → Int} {l : List Int} {c d t : Nat} {r : S41} (f : Rf V c d t r) : ∀ m x, x ≤ m → c ≤ x → x < d → 0 ≤ V x → root V l x = root V l c := by
  intro m
  induction m with
  | zero => intro x h0 h1 h2 h3; obtain rfl : x = c := by omega
            rfl
  | succ m ih =>
    intro x h0 h1 h2 h3
    by_cases hx : x = c
    · rw [hx]
    · obtain ⟨_, q, h4, h5, h6, h7⟩ := in_run (l := l) f (by omega) h2 h3
      rw [root_some h4 h6]
      exact ih q (by omega) h5 (by omega) h7
theorem Fc_run {V : Nat → Int} {l : List Int} {c d t : Nat} {r : S41} (f : Rf V c d t r) : Fc V l d = Fc V l c ++ if pred V l c = none then [c] else [] := by
  unfold Fc
  have hlt := f.lt
  rw [KL_split V (Nat.zero_le c) (show c ≤ d by omega), List.filter_append, KL_cons V hlt, if_pos f.k, List.filter_cons]
  congr 1
  have h0 : (KL V (c + 1) d).filter (fun i => (pred V l i).isNone) = [] := by
    rw [List.filter_eq_nil_iff]
    intro x hx
    obtain ⟨h1, h2, h3⟩ := mem_KL.1 hx
    obtain ⟨_, q, h4, _⟩ := in_run (l := l) f (by omega) h2 h3
    rw [h4]
    simp
  rw [h0]
  cases pred V l c <;> simp
theorem chn_run {V : Nat → Int} {l : List Int} {c d t : Nat} {r : S41} (f : Rf V c d t r) (i : Nat) : chn V l d i = chn V l c i ++ if root V l c = i then KL V c d else [] := by
  unfold chn
  have hlt := f.lt
  rw [KL_split V (Nat.zero_le c) (show c ≤ d by omega), List.filter_append]
  congr 1
  by_cases hi : root V l c = i
  · rw [if_pos hi, List.filter_eq_self]
    intro x hx
    obtain ⟨h1, h2, h3⟩ := mem_KL.1 hx
    rw [run_root f x x (Nat.le_refl _) h1 h2 h3, hi, beq_self_eq_true]
  · rw [if_neg hi, List.filter_eq_nil_iff]
    intro x hx
    obtain ⟨h1, h2, h3⟩ := mem_KL.1 hx
    rw [run_root f x x (Nat.le_refl _) h1 h2 h3]
    simpa using hi
theorem KL_last {V : Nat → Int} {c d t : Nat} {r : S41} (f : Rf V c d t r) : (KL V c d).getLast? = some t := by
  obtain ⟨h1, h2, h3, _⟩ := f.t_in
  refine last_of (KL_up V c d) (mem_KL.2 ⟨h1, h2, h3⟩) fun x hx => ?_
  obtain ⟨h4, h5, h6⟩ := mem_KL.1 hx
  by_cases h : x ≤ t
  · exact h
  · have := (prv_some.1 f.pr).2.2 x (by omega) h5
    omega
theorem map_set {α : Type} (L : List Nat) (k i0 : Nat) (f g : Nat → α) (hs : L.Pairwise (· < ·)) (hk : L[k]? = some i0) (h : ∀ i ∈ L, i ≠ i0 → g i = f i) : L.map g = (L.map f).set k (g i0) := by
  apply List.ext_getElem?
  intro j
  rw [List.getElem?_set, List.getElem?_map]
  have hlt : k < L.length := (List.getElem?_eq_some_iff.1 hk).1
  by_cases hj : k = j
  · subst hj
    rw [if_pos rfl, hk, List.length_map, if_pos hlt]
    rfl
  · rw [if_neg hj, List.getElem?_map]
    cases hx : L[j]? with
    | none => rfl
    | some x =>
      have hne : x ≠ i0 := fun e => by
        subst e
        have h1 := (List.getElem?_eq_some_iff.1 hk)
        have h2 := (List.getElem?_eq_some_iff.1 hx)
        obtain ⟨a1, a2⟩ := h1
        obtain ⟨b1, b2⟩ := h2
        rcases Nat.lt_or_gt_of_ne hj with h3 | h3
        · have := List.pairwise_iff_getElem.1 hs k j a1 b1 h3
          omega
        · have := List.pairwise_iff_getElem.1 hs j k b1 a1 h3
          omega
      show some (g x) = some (f x)
      rw [h x (List.mem_of_getElem? hx) hne]

theorem ent_same {V : Nat → Int} {l : List Int} {para : Int} {c d t : Nat} {r : S41} (f : Rf V c d t r) {i : Nat} (h : root V l c ≠ i) : ent V l para d i = ent V l para c i := by
  have e : chn V l d i = chn V l c i := by rw [chn_run f, if_neg h, List.append_nil]
  unfold ent eos
  rw [e]
theorem ent_run {V : Nat → Int} {l : List Int} {para : Int} {c d t : Nat} {r : S41} (f : Rf V c d t r) : ent V l para d (root V l c) = ⟨V (root V l c), wy (V (root V l c)) (lev0 V para (prv V (root V l c))), if (nxt V l t).isSome = true then 0 else wy (V (root V l c)) (bh V l para t), nums (chn V l c (root V l c)) ++ r.f3⟩ := by
  have e : chn V l d (root V l c) = chn V l c (root V l c) ++ KL V c d := by rw [chn_run f, if_pos rfl]
  unfold ent eos
  have h1 : (chn V l c (root V l c) ++ KL V c d).getLast? = some t := by
    rw [List.getLast?_append, KL_last f]
    rfl
  rw [e, h1, f.f3]
  unfold nums
  rw [List.map_append]
theorem lst_run {V : Nat → Int} {n c d t : Nat} {r : S41} (f : Rf V c d t r) (hd : d = n ∨ (d < n ∧ 0 ≤ V d ∧ bgn V d = true)) : lst V n t = true ∧ nx V n (t + 1) = if d < n then some d else none := by
  obtain ⟨h1, h2, h3, h4⟩ := f.t_in
  have hp := (prv_some.1 f.pr).2.2
  rcases hd with rfl | ⟨h5, h6, h7⟩
  · have hn : nx V d (t + 1) = none := nx_none.2 fun x h5 h6 => hp x (by omega) h6
    rw [if_neg (by omega)]
    refine ⟨?_, hn⟩
    unfold lst
    rw [hn]
  · have hn : nx V n (t + 1) = some d := nx_some.2 ⟨by omega, h5, h6, fun x h8 h9 => hp x (by omega) h9⟩
    rw [if_pos h5]
    refine ⟨?_, hn⟩
    unfold lst
    rw [hn]
    unfold bgn at h7
    rw [f.pr] at h7
    simp only [decide_eq_true_eq] at h7 ⊢
    exact fun e => h7 e.symm
theorem ix_iff (q : Int) : ∀ (L : List S41) (i : Int), 0 ≤ i → (0 ≤ seqs_goes.ix q L i ↔ ∃ r ∈ L, r.f1 = q)
  | [], i, _ => by simp [seqs_goes.ix]
  | c :: L, i, hi => by
    unfold seqs_goes.ix
    by_cases h : c.f1 = q
    · rw [if_pos (beq_iff_eq.2 h)]
      exact ⟨fun _ => ⟨c, by simp, h⟩, fun _ => hi⟩
    · rw [if_neg (fun e => h (beq_iff_eq.1 e)), ix_iff q L (i + 1) (by omega)]
      constructor
      · rintro ⟨r, h1, h2⟩; exact ⟨r, List.mem_cons_of_mem _ h1, h2⟩
      · rintro ⟨r, h1, h2⟩
        rcases List.mem_cons.1 h1 with rfl | h1
        · exact absurd h2 h
        · exact ⟨r, h1, h2⟩
theorem ini_eq (c : Int) : seqs_goes.ini c = ini c := by
  unfold seqs_goes.ini ini
  rw [Bool.eq_iff_iff]
  simp only [Bool.or_eq_true, beq_iff_eq, decide_eq_true_eq]
theorem rd_mid (A : List S41) (r : S41) (B : List S41) : rd_T41 (A ++ r :: B) (A.length : Int) = r := by
  unfold rd_T41
  rw [Int.toNat_natCast, List.getD_eq_getElem?_getD, List.getElem?_append_right (Nat.le_refl _), Nat.sub_self]
  rfl
theorem goes_eq {V : Nat → Int} {l : List Int} (H : Lv V l) {c d t : Nat} {r : S41} (A B : List S41) (hn : l.length < 100000) (hR : Rn V l.length (A ++ r :: B)) (f : Rf V c d t r) (hdn : d ≤ l.length) (hd : d = l.length ∨ (d < l.length ∧ 0 ≤ V d ∧ bgn V d = true)) (hA : Rn V c A) :
    ∃ gt gm, seqs_goes.f (A ++ r :: B) (A.length : Int) l (mAll l) = some (gt, gm) ∧ (gm = true → gt = (endOf l t : Int) ∧ nxt V l t = some (endOf l t)) ∧ (gm = false → nxt V l t = none) := by
  obtain ⟨h1, h2, h3, h4⟩ := f.t_in
  have hlen := hR.len
  have hm : (mAll l).length = l.length := mAll_len l
  have hrm : rd (mAll l) (t : Int) = mAt l t := mAll_get l t (by omega)
  have hls := (lst_run f hd).1
  unfold seqs_goes.f
  rw [rd_mid, f.f2, if_pos ⟨by omega, by simp; omega, by omega, by omega, by omega⟩, hrm, show rd l (t : Int) = at' l t from rfl, ini_eq]
  by_cases hi : ini (at' l t) = true
  · rw [if_pos hi, if_pos (by rw [hm]; omega)]
    have hmt : mAt l t = (endOf l t : Int) := by unfold mAt; rw [if_pos hi]
    rw [hmt]
    refine ⟨_, _, rfl, fun hg => ⟨rfl, ?_⟩, fun hg => ?_⟩
    · have hg' := of_decide_eq_true hg
      rw [ix_iff _ _ _ (by omega)] at hg'
      obtain ⟨r', h5, h6⟩ := hg'
      obtain ⟨p, h7, h8, h9, h10⟩ := hR.each r' (List.mem_append_right _ (List.mem_cons_of_mem _ (by rw [Int.toNat_natCast, List.drop_append, show A.length + 1 - A.length = 1 by omega, List.drop_of_length_le (by omega)] at h5; simpa using h5)))
      obtain rfl : endOf l t = p := by omega
      unfold nxt
      rw [if_pos hls, if_pos ⟨hi, h8, h10⟩]
    · have hg' := of_decide_eq_false hg
      rw [ix_iff _ _ _ (by omega)] at hg'
      unfold nxt
      rw [if_pos hls, if_neg]
      rintro ⟨_, h5, h6⟩
      have h22 := end_22 l t h5
      have hgt := endOf_gt l t (by omega)
      have hp0 : 0 ≤ V (endOf l t) := H.kpdi _ h5 h22
      obtain ⟨r', h7, h8⟩ := hR.has _ h5 hp0 h6
      refine hg' ⟨r', ?_, h8⟩
      rw [Int.toNat_natCast, List.drop_append, show A.length + 1 - A.length = 1 by omega, List.drop_of_length_le (by omega)]
      rcases List.mem_append.1 h7 with h9 | h9
      · obtain ⟨p, e1, e2, _⟩ := hA.each r' h9
        omega
      · rcases List.mem_cons.1 h9 with rfl | h9
        · have := f.f1
          omega
        · simpa using h9
  · rw [if_neg hi]
    refine ⟨_, _, rfl, fun hg => (by cases hg), fun _ => ?_⟩
    unfold nxt
    rw [if_pos hls, if_neg (fun h => hi h.1)]
theorem mAt_end (l : List Int) (t : Nat) (ht : t < l.length) : mAt l t = (l.length : Int) ↔ ini (at' l t) = true ∧ endOf l t = l.length := by
  unfold mAt
  by_cases hi : ini (at' l t) = true
  · rw [if_pos hi]
    constructor
    · intro h; exact ⟨hi, by omega⟩
    · rintro ⟨_, h⟩; rw [h]
  · rw [if_neg hi]
    constructor
    · intro h
      exfalso
      split at h
      · cases ho : (ope l t).head? with
        | none => rw [ho] at h; dsimp only at h; omega
        | some k =>
          rw [ho] at h
          dsimp only at h
          have := ope_lt l t (by omega) k (List.mem_of_head? ho)
          omega
      · omega
    · rintro ⟨h, _⟩; exact absurd h hi
theorem behind_eq {V : Nat → Int} {l : List Int} {para : Int} {c d t : Nat} {r : S41} (A B : List S41) (hn : l.length < 100000) (hR : Rn V l.length (A ++ r :: B)) (f : Rf V c d t r) (hdn : d ≤ l.length)
    (hB : Nb V l.length d B) : seqs_behind.f (A ++ r :: B) (A.length : Int) para l (mAll l) = some (bh V l para t) := by
  obtain ⟨h1, h2, h3, h4⟩ := f.t_in
  have hlen := hR.len
  have hm : (mAll l).length = l.length := mAll_len l
  have hrm : rd (mAll l) (t : Int) = mAt l t := mAll_get l t (by omega)
  have hal : A.length + B.length + 1 < 100001 := by simp at hlen; omega
  have hL : ((A ++ r :: B).length : Int) = A.length + B.length + 1 := by simp; omega
  unfold seqs_behind.f
  rw [rd_mid, f.f2, hrm, if_pos (by omega), if_pos (by rw [hL]; omega), if_pos (by omega), if_pos (by rw [hm]; omega)]
  unfold bh
  by_cases he : ini (at' l t) = true ∧ endOf l t = l.length
  · rw [if_pos he, if_pos ((mAt_end l t (by omega)).2 he)]
  · rw [if_neg he, if_neg (fun h => he ((mAt_end l t (by omega)).1 h))]
    have hw : wrap64 ((A.length : Int) + 1) = ((A.length + 1 : Nat) : Int) := by rw [w64 (by omega) (by omega)]; omega
    rw [hw]
    cases B with
    | nil =>
      have hB : d = l.length := hB
      have hx := (lst_run f (.inl hB)).2
      rw [if_neg (by omega)] at hx
      rw [hx]
      unfold seqs_beside.f
      rw [if_neg (by omega), if_pos (by rw [hL]; simp)]
      rfl
    | cons r2 B =>
      obtain ⟨b1, b2, b3, b4, b5⟩ := hB
      have hx := (lst_run f (.inr ⟨b5, b3, b4⟩)).2
      rw [if_pos b5] at hx
      rw [hx]
      unfold seqs_beside.f
      have hr2 : rd_T41 (A ++ r :: r2 :: B) ((A.length + 1 : Nat) : Int) = r2 := by
        have := rd_mid (A ++ [r]) r2 B
        simpa using this
      rw [hr2, if_neg (by omega), if_neg (by rw [hL]; simp only [List.length_cons]; omega), if_pos (by omega), if_pos (by rw [hL]; simp only [List.length_cons]; omega), b2]
      rfl
theorem beside_eq {V : Nat → Int} {n : Nat} {para : Int} {c : Nat} (A : List S41) (r : S41) (B : List S41) (hn : n < 100000) (hR : Rn V n (A ++ r :: B)) (hA : Rn V c A) : seqs_beside.f (A ++ r :: B) (wrap64 ((A.length : Int) - 1)) para = some (lev0 V para (prv V c)) := by
  have hlen := hR.len
  have hal : A.length + B.length + 1 < 100001 := by simp at hlen; omega
  have hL : ((A ++ r :: B).length : Int) = A.length + B.length + 1 := by simp; omega
  have ha := hA.ahead
  rw [w64 (by omega) (by omega)]
  unfold seqs_beside.f
  rcases snoc_or A with rfl | ⟨X, z, rfl⟩
  · rw [if_pos (by simp)]
    rw [show prv V c = none from ha]
    rfl
  · rw [List.getLast?_append] at ha
    obtain ⟨t, h1, h2⟩ := ha
    have e : ((X ++ [z]).length : Int) - 1 = (X.length : Int) := by simp
    have hz : rd_T41 (X ++ [z] ++ r :: B) (X.length : Int) = z := by
      have := rd_mid X z (r :: B)
      simpa using this
    have h2' : z.f0 = V t := h2
    rw [e, hz, if_neg (by omega), if_neg (by rw [hL]; simp; omega), if_pos (by omega), if_pos (by rw [hL]; simp; omega), h1, h2']
    rfl
/-- What the map holds. -/
def OpI (V : Nat → Int) (l : List Int) (c : Nat) (op : List (Int × Int)) : Prop :=
  ∀ q : Nat, c ≤ q → q < l.length → 0 ≤ V q → bgn V q = true → seqs_Sequences.lk op (q : Int) = (pred V l q).bind fun t => if t < c then some ((idx V l (root V l t) : Nat) : Int) else none
theorem OpI.next {V : Nat → Int} {l : List Int} (H : Lv V l) {c d t : Nat} {r : S41} {op op' : List (Int × Int)} (f : Rf V c d t r) (hdn : d ≤ l.length) (h : OpI V l c op) (h0 : ∀ q : Nat, nxt V l t ≠ some q → seqs_Sequences.lk op' (q : Int) = seqs_Sequences.lk op (q : Int)) (h1 : ∀ q : Nat, nxt V l t = some q → seqs_Sequences.lk op' (q : Int) = some ((idx V l (root V l c) : Nat) : Int)) : OpI V l d op' := by
  obtain ⟨e1, e2, e3, e4⟩ := f.t_in
  intro q g1 g2 g3 g4
  have hcd := f.lt
  by_cases hq : nxt V l t = some q
  · rw [h1 q hq, ((nxt_iff H (by omega) e3).1 hq).2.2]
    show some _ = if t < d then _ else _
    rw [if_pos e2, run_root f t t (Nat.le_refl _) e1 e2 e3]
  · rw [h0 q hq, h q (by omega) g2 g3 g4]
    cases hp : pred V l q with
    | none => rfl
    | some t' =>
      show (if t' < c then _ else none) = if t' < d then _ else none
      by_cases h5 : t' < c
      · rw [if_pos h5, if_pos (by omega)]
      · rw [if_neg h5]
        by_cases h6 : t' < d
        · exfalso
          obtain ⟨h7, h8, h9⟩ := pred_lt H g2 hp
          have hn := (nxt_iff H (p := q) (by omega) h8).2 ⟨g2, g3, hp⟩
          have hne : t' ≠ t := fun e => by rw [e] at hn; exact hq hn
          have h10 : t' < t := by
            rcases Nat.lt_or_ge t' t with h | h
            · exact h
            · have := (prv_some.1 f.pr).2.2 t' (by omega) h6
              omega
          -- the next kept place is in the run
          have hl : lst V l.length t' = false := by
            cases hx : nx V l.length (t' + 1) with
            | none => have := nx_none.1 hx t (by omega) (by omega); omega
            | some y =>
              have h11 := nx_some.1 hx
              have h12 : y ≤ t := by
                by_cases h : y ≤ t
                · exact h
                · have := h11.2.2.2 t (by omega) (by omega)
                  omega
              exact lst_false.2 ⟨y, hx, by rw [f.lv y (by omega) (by omega) h11.2.2.1, f.lv t' (by omega) h6 h8]⟩
          unfold nxt at hn
          rw [hl, if_neg (by decide)] at hn
          have h11 := nx_some.1 hn
          have := h11.2.2.2 t (by omega) (by omega)
          omega
        · rw [if_neg h6]
theorem KL_len (V : Nat → Int) (a b : Nat) : (KL V a b).length ≤ b - a := by
  unfold KL
  exact Nat.le_trans (List.length_filter_le _ _) (by simp)
theorem Fc_len (V : Nat → Int) (l : List Int) (c : Nat) : (Fc V l c).length ≤ c := by
  unfold Fc
  exact Nat.le_trans (List.length_filter_le _ _) (by have := KL_len V 0 c; omega)
theorem chn_len (V : Nat → Int) (l : List Int) (c i : Nat) : (chn V l c i).length ≤ c := by
  unfold chn
  exact Nat.le_trans (List.length_filter_le _ _) (by have := KL_len V 0 c; omega)
theorem chn_last {V : Nat → Int} {l : List Int} (H : Lv V l) {c q : Nat} (hc : c < l.length) (hc0 : 0 ≤ V c) (h : pred V l c = some q) : (chn V l c (root V l c)).getLast? = some q := by
  obtain ⟨h1, h2, h3⟩ := pred_lt H hc h
  refine last_of (chn_up V l c _) (mem_chn.2 ⟨h1, h2, (root_some h h1).symm⟩) fun x hx => ?_
  obtain ⟨h4, h5, h6⟩ := mem_chn.1 hx
  by_cases hxq : x ≤ q
  · exact hxq
  · obtain ⟨y, e1, e2, e3, _⟩ := chain H x q x (Nat.le_refl _) (by omega) h2 h5 (by rw [h6, root_some h h1]) (by omega)
    rw [(nxt_iff H (p := c) (by omega) h2).2 ⟨hc, hc0, h⟩] at e1
    obtain rfl := Option.some.inj e1
    omega
theorem pick_eq {V : Nat → Int} {l : List Int} (H : Lv V l) {para : Int} {c d t : Nat} {r : S41} (A B : List S41) (hn : l.length < 100000) (hR : Rn V l.length (A ++ r :: B)) (hA : Rn V c A) (f : Rf V c d t r) (hdn : d ≤ l.length) {op : List (Int × Int)} (hop : OpI V l c op) :
    ∃ out2, seqs_Sequences.pick (A ++ r :: B) para (A.length : Int) op ((Fc V l c).map (ent V l para c)) = some (((idx V l (root V l c) : Nat) : Int), out2) ∧ idx V l (root V l c) < out2.length ∧ out2.length ≤ c + 1 ∧
      rd_T28 out2 ((idx V l (root V l c) : Nat) : Int) = ⟨V (root V l c), wy (V (root V l c)) (lev0 V para (prv V (root V l c))), 0, nums (chn V l c (root V l c))⟩ ∧ out2.set (idx V l (root V l c)) (ent V l para d (root V l c)) = (Fc V l d).map (ent V l para d) := by
  have hcd := f.lt
  have hlk := hop c (Nat.le_refl _) (by omega) f.k f.b
  have hlen := Fc_len V l c
  unfold seqs_Sequences.pick
  rw [rd_mid, f.f1, f.f0]
  cases hp : pred V l c with
  | none =>
    have hr := root_none hp
    rw [hp] at hlk
    rw [Option.bind_none] at hlk
    rw [hlk]
    dsimp only
    rw [beside_eq A r B hn hR hA, Option.bind_some, way_eq, Option.bind_some]
    have e0 : idx V l c = (Fc V l c).length := rfl
    rw [hr]
    refine ⟨(Fc V l c).map (ent V l para c) ++ [⟨V c, wy (V c) (lev0 V para (prv V c)), 0, []⟩], by rw [List.length_map, e0], by simp [e0], by simp; omega, ?_, ?_⟩
    · unfold rd_T28
      rw [Int.toNat_natCast, e0, List.getD_eq_getElem?_getD, List.getElem?_append_right (by simp), List.length_map, Nat.sub_self]
      have : chn V l c c = [] := by
        unfold chn
        rw [List.filter_eq_nil_iff]
        intro x hx
        have h1 := mem_KL.1 hx
        have h2 := root_le V l x x (Nat.le_refl _)
        simp only [beq_iff_eq]
        omega
      rw [this]
      rfl
    · rw [Fc_run f, if_pos hp, List.map_append, List.set_append_right _ _ (by rw [List.length_map]; exact Nat.le_refl _), List.length_map, e0, Nat.sub_self]
      congr 1
      refine List.map_congr_left fun i hi => ?_
      have h1 := (mem_Fc.1 hi).1
      exact (ent_same f (by rw [hr]; omega)).symm
  | some q =>
    obtain ⟨h1, h2, h3⟩ := pred_lt H (by omega) hp
    rw [hp] at hlk
    rw [Option.bind_some, if_pos h1, ← root_some hp h1] at hlk
    rw [hlk]
    dsimp only
    obtain ⟨m1, m2, m3, m4⟩ := root_made H c c (Nat.le_refl _) (by omega) f.k
    have hlt : root V l c < c := by
      rw [root_some hp h1]
      have := root_le V l q q (Nat.le_refl _)
      omega
    have hmem : root V l c ∈ Fc V l c := mem_Fc.2 ⟨hlt, m2, m1⟩
    have hget := Fc_idx hmem
    have hk : idx V l (root V l c) < (Fc V l c).length := (List.getElem?_eq_some_iff.1 hget).1
    refine ⟨_, rfl, by rw [List.length_map]; exact hk, by rw [List.length_map]; omega, ?_, ?_⟩
    · unfold rd_T28
      rw [Int.toNat_natCast, List.getD_eq_getElem?_getD, List.getElem?_map, hget]
      show ent V l para c (root V l c) = _
      unfold ent eos
      rw [chn_last H (by omega) f.k hp]
      dsimp only
      rw [if_pos (by rw [(nxt_iff H (p := c) (by omega) h2).2 ⟨by omega, f.k, hp⟩]; rfl)]
    · rw [Fc_run f, hp, if_neg (by simp), List.append_nil]
      exact (map_set _ _ _ _ _ (Fc_up V l c) hget fun i hi hne => ent_same f (fun e => hne e.symm)).symm
def Nc (n c : Nat) : List S41 → Prop
  | [] => c = n
  | r :: _ => r.f1 = (c : Int)
theorem lp_spec {V : Nat → Int} {l : List Int} (H : Lv V l) (para : Int) (hn : l.length < 100000) (R : List S41) (hR : Rn V l.length R) : ∀ (k : Nat) (A B : List S41) (c : Nat) (op : List (Int × Int)), R = A ++ B → B.length = k → Nc l.length c B → OpI V l c op → op.length ≤ A.length →
    seqs_Sequences.lp R para l (mAll l) k (A.length : Int) op ((Fc V l c).map (ent V l para c)) = some ((Fc V l l.length).map (ent V l para l.length)) := by
  intro k
  induction k with
  | zero =>
    intro A B c op hAB hB hc hop hlen
    obtain rfl := List.length_eq_zero_iff.1 hB
    have hc : c = l.length := hc
    subst hc
    rfl
  | succ k ih =>
    intro A B c op hAB hB hc hop hlen
    cases B with
    | nil => cases hB
    | cons r B =>
      subst hAB
      obtain ⟨c', d, t, hA, f, hdn, hnext⟩ := Rn.split A r B.length B _ rfl hR
      have hc : r.f1 = (c : Int) := hc
      have hcc : c = c' := by have := f.f1; omega
      subst hcc
      have hcd := f.lt
      obtain ⟨t1, t2, t3, t4⟩ := f.t_in
      have hRl := hR.len
      have hal : A.length + B.length + 1 < 100001 := by simp at hRl; omega
      have hFl := Fc_len V l c
      have hdB : d = l.length ∨ (d < l.length ∧ 0 ≤ V d ∧ bgn V d = true) := by
        cases B with
        | nil => exact .inl hnext
        | cons r2 B => exact .inr ⟨hnext.2.2.2.2, hnext.2.2.1, hnext.2.2.2.1⟩
      obtain ⟨out2, e1, e2, e3, e4, e5⟩ := pick_eq (para := para) H A B hn hR hA f hdn hop
      obtain ⟨gt, gm, e6, e7, e8⟩ := goes_eq H A B hn hR f hdn hdB hA
      have e9 := behind_eq (para := para) A B hn hR f hdn hnext
      obtain ⟨m1, m2, m3, m4⟩ := root_made H c c (Nat.le_refl _) (by omega) f.k
      have hgd : seqs_Sequences.gd (A ++ r :: B) (A.length : Int) op ((Fc V l c).map (ent V l para c)) := by
        unfold seqs_Sequences.gd
        rw [rd_mid, f.f1, List.length_map]
        exact ⟨by omega, by omega, by omega, by omega⟩
      have hgk : seqs_Sequences.gk (A ++ r :: B) (A.length : Int) ((idx V l (root V l c) : Nat) : Int) out2 := by
        unfold seqs_Sequences.gk
        rw [rd_mid, e4, f.f3]
        have h1 := chn_len V l c (root V l c)
        have h2 := KL_len V c d
        refine ⟨by omega, by omega, ?_, ?_⟩
        · show (nums _).length < 1000000
          unfold nums
          rw [List.length_map]
          omega
        · rw [List.length_map]
          omega
      have hnew : Nc l.length d B := by
        cases B with
        | nil => exact hnext
        | cons r2 B => exact hnext.1
      have hrun := ent_run (para := para) (l := l) f
      unfold seqs_Sequences.lp
      rw [if_pos hgd, e1, Option.bind_some]
      dsimp only
      rw [if_pos hgk, e6, Option.bind_some]
      dsimp only
      rw [rd_mid, e4, Int.toNat_natCast]
      dsimp only
      have hstep : ∀ op', OpI V l d op' → op'.length ≤ (A ++ [r]).length → seqs_Sequences.lp (A ++ r :: B) para l (mAll l) k ((A.length : Int) + 1) op' ((Fc V l d).map (ent V l para d)) = some ((Fc V l l.length).map (ent V l para l.length)) := fun op' h1 h2 => by
        have := ih (A ++ [r]) B d op' (by simp) (by simpa using hB) hnew h1 h2
        rw [show ((A ++ [r]).length : Int) = (A.length : Int) + 1 by simp] at this
        exact this
      cases gm with
      | true =>
        obtain ⟨h1, h2⟩ := e7 rfl
        rw [h2, if_pos (by rfl)] at hrun
        have hq := (nxt_iff H (p := endOf l t) (by omega) t3).1 h2
        rw [if_pos (Eq.refl true), if_pos ⟨by omega, by omega⟩, ← hrun, e5]
        refine hstep _ (hop.next H f hdn (fun q hq => ?_) (fun q hq => ?_)) (by simp; omega)
        · rw [seqs_Sequences.lk_cons, if_neg]
          intro h
          refine hq ?_
          rw [h2]
          congr 1
          omega
        · rw [h2] at hq
          obtain rfl := Option.some.inj hq
          rw [seqs_Sequences.lk_cons, if_pos h1]
      | false =>
        have h1 := e8 rfl
        rw [h1, if_neg (by decide)] at hrun
        rw [if_neg (by decide), e9, Option.bind_some, way_eq, Option.bind_some, f.f0, ← m3, ← hrun, e5]
        refine hstep _ (hop.next H f hdn (fun q hq => rfl) (fun q hq => ?_)) (by simp; omega)
        rw [h1] at hq
        cases hq
end Go.Proofs.Ytdieknpikdepgaa.PC12
