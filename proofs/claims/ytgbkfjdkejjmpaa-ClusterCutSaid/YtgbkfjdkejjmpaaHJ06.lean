/- Chapter 6: how the clusters of a text lie: one behind the other, from its beginning to its end; in which of them a byte is. Conditions: at most 100000 bytes. -/
import Derived.Test.YtgbkfjdkejjmpaaHH06
import Derived.Test.YtgbkfjdkejjmpaaPC06x18
namespace Go.Proofs.Ytgbkfjdkejjmpaa.PC06
open Go.RowKit Go.Proofs.YtgbkfjdkejjmpaaW.PrintWords Go.Proofs.YtgbkfjdkejjmpaaW.PrintLast Go.Proofs.YtgbkfjdkejjmpaaW.PrintMore Go.Proofs.YtgbkfjdkejjmpaaH
set_option linter.unusedVariables false
set_option linter.unusedSimpArgs false
open Q01 (Chain chain_of chain_le runesOf runesOf_len)
open Q05 (rng)
open parquetrylaw06_ClusterWhole (atp atp_0 cl one good)

theorem grps_flat : ∀ (t cur : List Rn) (pre : List Int), (grps t cur pre).flatten = cur ++ t
  | [], cur, pre => by simp [grps]
  | r :: t, cur, pre => by
    unfold grps
    split
    · rw [grps_flat t]; simp
    · rw [List.flatten_cons, grps_flat t]; simp
theorem grps_ne : ∀ (t cur : List Rn) (pre : List Int), cur ≠ [] → ∀ g ∈ grps t cur pre, g ≠ []
  | [], cur, pre, h, g, hg => by
    have : g = cur := by simpa [grps] using hg
    rw [this]; exact h
  | r :: t, cur, pre, h, g, hg => by
    unfold grps at hg
    split at hg
    · exact grps_ne t _ _ (by simp) g hg
    · rcases List.mem_cons.1 hg with rfl | hg
      · exact h
      · exact grps_ne t [r] _ (by simp) g hg
theorem grp_flat (l : List Rn) : (grp l).flatten = l := by
  cases l with
  | nil => rfl
  | cons r t => exact grps_flat t [r] [r.f2]
theorem grp_ne (l : List Rn) : ∀ g ∈ grp l, g ≠ [] := by
  cases l with
  | nil => intro g hg; simp [grp] at hg
  | cons r t => exact grps_ne t [r] [r.f2] (by simp)
theorem chain_app : ∀ (a b : List Rn) (p e : Int), Chain p (a ++ b) e → ∃ m, Chain p a m ∧ Chain m b e
  | [], b, p, e, h => ⟨p, rfl, h⟩
  | x :: a, b, p, e, h => by
    obtain ⟨h1, h2, h3, h4, h5, h6⟩ := h
    obtain ⟨m, h7, h8⟩ := chain_app a b _ e h6
    exact ⟨m, ⟨h1, h2, h3, h4, h5, h7⟩, h8⟩
theorem siz_chain : ∀ (g : List Rn) (p m s : Int), Chain p g m → 0 ≤ p → 0 ≤ s → s + (m - p) ≤ 1000000000 → g.foldl (fun s r => wrap64 (s + r.f1)) s = s + (m - p)
  | [], p, m, s, h, _, _, _ => by
    have h1 : p = m := h
    show s = _
    omega
  | x :: g, p, m, s, h, hp, hs, hb => by
    obtain ⟨h1, h2, h3, h4, h5, h6⟩ := h
    have h7 := chain_le _ _ _ h6
    rw [List.foldl_cons, w64 (by omega) (by omega), siz_chain g (p + x.f1) m (s + x.f1) h6 (by omega) (by omega) (by omega)]
    omega
/-- Clusters follow one another. -/
def Lie : List Cl → Int → Int → Int → Prop
  | [], _, p, e => p = e
  | c :: r, n, p, e => c.f0 = p ∧ 1 ≤ c.f1 ∧ 0 ≤ c.f4 ∧ c.f4 ≤ 2 ∧ c.f2 = n ∧ c.f2 < c.f3 ∧ Lie r c.f3 (p + c.f1) e
theorem mks_lie : ∀ (gs : List (List Rn)) (n : Nat) (p e : Int), (∀ g ∈ gs, g ≠ []) → Chain p gs.flatten e → 0 ≤ p → e ≤ 1000000 → Lie (mks gs n) (n : Int) p e
  | [], n, p, e, _, h, _, _ => h
  | g :: gs, n, p, e, hne, h, hp, he => by
    rw [List.flatten_cons] at h
    obtain ⟨m, h1, h2⟩ := chain_app g _ p e h
    have h3 := chain_le _ _ _ h2
    have h4 := chain_le _ _ _ h1
    have hg := hne g (by simp)
    have hgl : 0 < g.length := List.length_pos_iff.2 hg
    have hs : siz g = m - p := by
      unfold siz
      rw [siz_chain g p m 0 h1 hp (by omega) (by omega)]
      omega
    have hw := wid_range (cds g)
    have hh : (hd g).f0 = p := by
      cases g with
      | nil => exact absurd rfl hg
      | cons x g => exact h1.1
    refine ⟨hh, by show 1 ≤ siz g; omega, hw.1, hw.2, rfl, by show (n : Int) < ((n + g.length : Nat) : Int); omega, ?_⟩
    have ih := mks_lie gs (n + g.length) m e (fun x hx => hne x (by simp [hx])) h2 (by omega) he
    rw [show p + (mkC g n).f1 = m by show p + siz g = m; omega]
    exact ih
theorem cl_0 (c : Cl) (r : List Cl) : cl (c :: r) 0 = c := rfl
theorem cl_s (c : Cl) (r : List Cl) (i : Nat) : cl (c :: r) (i + 1) = cl r i := rfl
theorem lie_le : ∀ (l : List Cl) (n p e : Int), Lie l n p e → p ≤ e
  | [], n, p, e, h => Int.le_of_eq h
  | c :: r, n, p, e, h => by
    obtain ⟨h1, h2, h3, h4, h5, h6, h7⟩ := h
    have := lie_le r _ _ _ h7
    omega
theorem atp_all : ∀ (l : List Cl) (n p e : Int), Lie l n p e → p + atp l l.length = e
  | [], n, p, e, h => by
    have h1 : p = e := h
    show p + 0 = e
    omega
  | c :: r, n, p, e, h => by
    obtain ⟨h1, h2, h3, h4, h5, h6, h7⟩ := h
    have := atp_all r _ _ _ h7
    show p + (c.f1 + atp r r.length) = e
    omega
theorem lie_at : ∀ (l : List Cl) (n p e : Int), Lie l n p e → ∀ i, i < l.length →
    (cl l i).f0 = p + atp l i ∧ 1 ≤ (cl l i).f1 ∧ 0 ≤ (cl l i).f4 ∧ (cl l i).f4 ≤ 2 ∧ (cl l i).f2 < (cl l i).f3 ∧ (i = 0 → (cl l i).f2 = n) ∧ (0 < i → (cl l i).f2 = (cl l (i - 1)).f3) ∧
    atp l (i + 1) = atp l i + (cl l i).f1 ∧ 0 ≤ atp l i ∧ p + atp l (i + 1) ≤ e
  | [], n, p, e, h, i, hi => by simp at hi
  | c :: r, n, p, e, h, i, hi => by
    obtain ⟨h1, h2, h3, h4, h5, h6, h7⟩ := h
    have hle := lie_le r _ _ _ h7
    cases i with
    | zero =>
      rw [cl_0, atp_0]
      have e1 : atp (c :: r) (0 + 1) = c.f1 + atp r 0 := rfl
      rw [e1, atp_0]
      exact ⟨by omega, h2, h3, h4, h6, fun _ => h5, fun h => by omega, by omega, by omega, by omega⟩
    | succ i =>
      obtain ⟨g1, g2, g3, g4, g5, g6, g7, g8, g9, g10⟩ := lie_at r _ _ _ h7 i (by simp at hi; omega)
      rw [cl_s]
      have e1 : atp (c :: r) (i + 1) = c.f1 + atp r i := rfl
      have e2 : atp (c :: r) (i + 1 + 1) = c.f1 + atp r (i + 1) := rfl
      rw [e1, e2]
      refine ⟨by omega, g2, g3, g4, g5, fun h => by omega, fun _ => ?_, by omega, by omega, by omega⟩
      cases i with
      | zero => rw [g6 rfl]; rfl
      | succ i => rw [g7 (by omega)]; rfl
theorem atp_mono (l : List Cl) (n p e : Int) (h : Lie l n p e) : ∀ d i, i + d ≤ l.length → atp l i ≤ atp l (i + d)
  | 0, i, _ => Int.le_refl _
  | d + 1, i, hd => by
    have h1 := atp_mono l n p e h d i (by omega)
    obtain ⟨_, g2, _, _, _, _, _, g8, _, _⟩ := lie_at l n p e h (i + d) (by omega)
    rw [← Nat.add_assoc]
    omega
/-! in which cluster a byte is -/
theorem ix_none (p : Int) : ∀ (l : List Cl) (i : Int), (∀ j, j < l.length → cluster_Find.hit p (cl l j) = false) → cluster_Find.ix p l i = -1
  | [], i, h => rfl
  | c :: r, i, h => by
    unfold cluster_Find.ix
    have h0 := h 0 (by simp)
    rw [cl_0] at h0
    rw [h0, if_neg (by decide)]
    exact ix_none p r _ (fun j hj => h (j + 1) (by simp; omega))
theorem ix_at (p : Int) : ∀ (l : List Cl) (n : Nat) (i : Int), n < l.length → (∀ j, j < n → cluster_Find.hit p (cl l j) = false) → cluster_Find.hit p (cl l n) = true → cluster_Find.ix p l i = i + (n : Int)
  | [], n, i, hn, h, hh => by simp at hn
  | c :: r, 0, i, hn, h, hh => by
    rw [cl_0] at hh
    unfold cluster_Find.ix
    rw [hh, if_pos rfl]
    omega
  | c :: r, n + 1, i, hn, h, hh => by
    unfold cluster_Find.ix
    have h0 := h 0 (by omega)
    rw [cl_0] at h0
    rw [h0, if_neg (by decide), ix_at p r n (i + 1) (by simp at hn; omega) (fun j hj => h (j + 1) (by omega)) hh]
    omega
theorem lie_hit (l : List Cl) (e : Int) (h : Lie l 0 0 e) (he : e ≤ 1000000) (p : Int) (hp : -10 ≤ p ∧ p ≤ 1000000) (j : Nat) (hj : j < l.length) : cluster_Find.hit p (cl l j) = true ↔ atp l j ≤ p ∧ p < atp l (j + 1) := by
  obtain ⟨g1, g2, g3, g4, g5, g6, g7, g8, g9, g10⟩ := lie_at l 0 0 e h j hj
  rw [hit_iff p _ ⟨by omega, by omega⟩ ⟨by omega, by omega⟩ ⟨by omega, by omega⟩]
  omega
theorem lie_good (l : List Cl) (e : Nat) (h : Lie l 0 0 (e : Int)) (he : e ≤ 100000) (hl : l.length ≤ 100000) : good e l := by
  have hall := atp_all l 0 0 e h
  have hm := atp_mono l 0 0 e h
  have none_ : ∀ p : Int, -10 ≤ p → p ≤ 1000000 → (∀ j, j < l.length → ¬ (atp l j ≤ p ∧ p < atp l (j + 1))) → cluster_Find.f l p = some (0, false) := fun p h0 h1 h2 => by
    unfold cluster_Find.f
    rw [ix_none p l 0 (fun j hj => Bool.eq_false_iff.2 (fun hh => h2 j hj ((lie_hit l e h (by omega) p ⟨h0, h1⟩ j hj).1 hh)))]
    rfl
  refine ⟨fun i hi => ?_, by omega, by omega, ?_, ?_⟩
  · obtain ⟨g1, g2, g3, g4, g5, g6, g7, g8, g9, g10⟩ := lie_at l 0 0 e h i hi
    refine ⟨by omega, g2, g3, g4, g5, g6, g7, g8, g9, by omega, fun k hk => ?_⟩
    unfold cluster_Find.f
    have hx : cluster_Find.ix (atp l i + (k : Int)) l 0 = 0 + (i : Int) := by
      refine ix_at _ l i 0 hi (fun j hj => ?_) ((lie_hit l e h (by omega) _ ⟨by omega, by omega⟩ i hi).2 ⟨by omega, by omega⟩)
      refine Bool.eq_false_iff.2 (fun hh => ?_)
      have h1 := (lie_hit l e h (by omega) _ ⟨by omega, by omega⟩ j (by omega)).1 hh
      have h2 := hm (i - (j + 1)) (j + 1) (by omega)
      rw [show j + 1 + (i - (j + 1)) = i by omega] at h2
      omega
    rw [hx, if_pos (by omega), Int.zero_add]
  · refine none_ _ (by omega) (by omega) (fun j hj => ?_)
    have h2 := hm (l.length - (j + 1)) (j + 1) (by omega)
    rw [show j + 1 + (l.length - (j + 1)) = l.length by omega] at h2
    omega
  · refine none_ _ (by omega) (by omega) (fun j hj => ?_)
    obtain ⟨g1, g2, g3, g4, g5, g6, g7, g8, g9, g10⟩ := lie_at l 0 0 e h j hj
    omega
theorem text_lie (L : List UInt8) (hL : L.length ≤ 100000) : Lie (cls (runesOf L)) 0 0 (L.length : Int) :=
  mks_lie (grp (runesOf L)) 0 0 _ (grp_ne _) (by rw [grp_flat]; exact chain_of L) (by omega) (by omega)
end Go.Proofs.Ytgbkfjdkejjmpaa.PC06
