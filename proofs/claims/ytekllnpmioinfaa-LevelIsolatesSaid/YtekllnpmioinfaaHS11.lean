/- What stands in an isolate that is closed, with all in it, changes nothing of what is open around it. Conditions: the level 0 to 125. -/
import Derived.Test.YtekllnpmioinfaaHL11
namespace Go.Proofs.Ytekllnpmioinfaa.PC11
open Go.RowKit Go.Proofs.YtekllnpmioinfaaW.PrintWords Go.Proofs.YtekllnpmioinfaaW.PrintLast Go.Proofs.YtekllnpmioinfaaW.PrintMore Go.Proofs.YtekllnpmioinfaaH
set_option linter.unusedVariables false
set_option linter.unusedSimpArgs false
open level_Explicit

/-- The level that the inside of an isolate tells, up to where it is closed. -/
def levi : List Int → Nat → Int × Bool
  | [], _ => (0, false)
  | c :: r, 0 => if c = 22 then (0, false) else if c = 0 then (0, true) else if c = 1 then (1, true) else if c = 2 then (1, true) else if ini c = true then levi r 1 else levi r 0
  | c :: r, d + 1 => if c = 22 then levi r d else if ini c = true then levi r (d + 2) else levi r (d + 1)
theorem levi_s (c : Int) (r : List Int) (d : Nat) : levi (c :: r) (d + 1) = if c = 22 then levi r d else if ini c = true then levi r (d + 2) else levi r (d + 1) := rfl
def cut (r : List Int) (d : Nat) : List Int := match clo r d with | some e => r.take e | none => r
theorem cut_c (c : Int) (r : List Int) (d : Nat) (h : c ≠ 22) : cut (c :: r) d = if ini c = true then c :: cut r (d + 1) else c :: cut r d := by
  unfold cut
  rw [clo_c c r d h]
  by_cases hi : ini c = true
  · rw [if_pos hi, if_pos hi]
    cases clo r (d + 1) <;> rfl
  · rw [if_neg hi, if_neg hi]
    cases clo r d <;> rfl
theorem cut_z (r : List Int) : cut (22 :: r) 0 = [] := by
  unfold cut
  rw [clo_z]
  rfl
theorem cut_s (r : List Int) (d : Nat) : cut (22 :: r) (d + 1) = 22 :: cut r d := by
  unfold cut
  rw [clo_s]
  cases clo r d <;> rfl
theorem levi_eq : ∀ (r : List Int) (d : Nat), lev (cut r d) d = levi r d
  | [], d => by cases d <;> rfl
  | c :: r, d => by
    by_cases h : c = 22
    · subst h
      cases d with
      | zero => rw [cut_z]; rfl
      | succ d => rw [cut_s, lev_s, levi_s, if_pos rfl, if_pos rfl]; exact levi_eq r d
    · rw [cut_c c r d h]
      by_cases hi : ini c = true
      · rw [if_pos hi]
        cases d with
        | zero => unfold lev levi; rw [if_neg h, levi_eq r 1, if_pos hi, if_pos hi]
        | succ d => rw [lev_s, levi_s, if_neg h, if_neg h, if_pos hi, if_pos hi]; exact levi_eq r (d + 2)
      · rw [if_neg hi]
        cases d with
        | zero => unfold lev levi; rw [if_neg h, levi_eq r 0, if_neg hi, if_neg hi]
        | succ d => rw [lev_s, levi_s, if_neg h, if_neg h, if_neg hi, if_neg hi]; exact levi_eq r (d + 1)
theorem fsi_eq (l : List Int) (i : Nat) (hi : i < l.length) : fsi l i = (levi (l.drop (i + 1)) 0).1 := by
  unfold fsi
  rw [List.drop_take, ← levi_eq]
  have h1 : (l.drop (i + 1)).take (endOf l i - (i + 1)) = cut (l.drop (i + 1)) 0 := by
    unfold endOf cut
    cases clo (l.drop (i + 1)) 0 with
    | some e => simp only; rw [show i + 1 + e - (i + 1) = e by omega]
    | none =>
      simp only
      exact List.take_of_length_le (by rw [List.length_drop]; omega)
  rw [h1]
/-- Has each initiator its PDI, each PDI its initiator, of so many that are open? -/
def clsd : List Int → Nat → Bool
  | [], d => d == 0
  | c :: r, d => if ini c = true then clsd r (d + 1) else if c = 22 then (match d with | 0 => false | d + 1 => clsd r d) else clsd r d
theorem levi_closed : ∀ (r : List Int) (d b : Nat) (t : List Int), clsd r d = true → levi (r ++ t) (d + b + 1) = levi t (b + 1)
  | [], d, b, t, h => by
    have : d = 0 := by simpa [clsd] using h
    subst this
    simp
  | c :: r, d, b, t, h => by
    rw [List.cons_append, levi_s]
    unfold clsd at h
    by_cases hi : ini c = true
    · rw [if_pos hi] at h
      rw [if_neg (ini_ne hi), if_pos hi, show d + b + 2 = (d + 1) + b + 1 by omega]
      exact levi_closed r (d + 1) b t h
    · rw [if_neg hi] at h
      by_cases h22 : c = 22
      · rw [if_pos h22] at h
        rw [if_pos h22]
        cases d with
        | zero => cases h
        | succ d =>
          rw [show d + 1 + b = d + b + 1 by omega]
          exact levi_closed r d b t h
      · rw [if_neg h22] at h
        rw [if_neg h22, if_neg hi]
        exact levi_closed r d b t h
theorem levi_iso (c : Int) (hc : ini c = true) (r t : List Int) (d : Nat) (h : clsd r 0 = true) : levi (c :: (r ++ 22 :: t)) d = levi t d := by
  have h2 : ¬ c = 22 ∧ ¬ c = 0 ∧ ¬ c = 1 ∧ ¬ c = 2 := by
    simp only [ini, Bool.or_eq_true, decide_eq_true_eq] at hc
    omega
  have key := levi_closed r 0 d (22 :: t) h
  rw [Nat.zero_add] at key
  cases d with
  | zero =>
    conv => lhs; unfold levi
    rw [if_neg h2.1, if_neg h2.2.1, if_neg h2.2.2.1, if_neg h2.2.2.2, if_pos hc]
    rw [key, levi_s, if_pos rfl]
  | succ d =>
    rw [levi_s, if_neg (ini_ne hc), if_pos hc, key, levi_s, if_pos rfl]
theorem levi_ahead : ∀ (a x y : List Int), (∀ d, levi x d = levi y d) → ∀ d, levi (a ++ x) d = levi (a ++ y) d
  | [], x, y, h, d => h d
  | c :: a, x, y, h, d => by
    have ih := levi_ahead a x y h
    rw [List.cons_append, List.cons_append]
    cases d with
    | zero => unfold levi; rw [ih 1, ih 0]
    | succ d => rw [levi_s, levi_s, ih d, ih (d + 2), ih (d + 1)]
/-- One step of the run. -/
def stp (c : Int) (r : List Int) (s : S) : S := if c = 20 then iso s 1 else if c = 19 then iso s 0 else if c = 21 then iso s (levi r 0).1 else s1 s c
theorem sat_stp (l : List Int) (b : Int) (i : Nat) (hi : i < l.length) : sat l b (i + 1) = stp (at' l i) (l.drop (i + 1)) (sat l b i) := by
  show s2v l i (s1 (sat l b i) (at' l i)) = _
  unfold s2v stp
  rw [fsi_eq l i hi]
  by_cases h : ini (at' l i) = true
  · rw [s1_ini h]
  · have h0 : ¬ (at' l i = 19 ∨ at' l i = 20 ∨ at' l i = 21) := by simpa [ini] using h
    rw [if_neg (by omega), if_neg (by omega), if_neg (by omega), if_neg (by omega), if_neg (by omega), if_neg (by omega)]
theorem stp_ini {c : Int} (hc : ini c = true) (r : List Int) (s : S) : ∃ o, stp c r s = iso s o := by
  have h0 : c = 19 ∨ c = 20 ∨ c = 21 := by simpa [ini] using hc
  rcases h0 with rfl | rfl | rfl
  · exact ⟨0, rfl⟩
  · exact ⟨1, rfl⟩
  · exact ⟨_, rfl⟩
theorem stp_not {c : Int} (hc : ¬ ini c = true) (r : List Int) (s : S) : stp c r s = s1 s c := by
  have h0 : ¬ (c = 19 ∨ c = 20 ∨ c = 21) := by simpa [ini] using hc
  unfold stp
  rw [if_neg (by omega), if_neg (by omega), if_neg (by omega)]
/-- Within an isolate: it was lost, or is open. -/
def Inv (d : Nat) (s0 s : S) : Prop :=
  (s.p = s0.p + 1 + d ∧ s.st = s0.st ∧ s.q = s0.q ∧ s.z = s0.z) ∨
  (∃ t e, s.st = t ++ (e :: s0.st) ∧ e.f2 = true ∧ s0.p = 0 ∧ s0.q = 0 ∧ s.p + t.countP (fun e => e.f2) = d ∧ s.z = s0.z + 1 + t.countP (fun e => e.f2))
theorem pushOk_no {p q : Nat} {n : Int} (h : 0 < p) : pushOk p q n = false := by
  simp [pushOk, h]
theorem Inv.emb {d : Nat} {s0 s : S} (h : Inv d s0 s) (o v : Int) : Inv d s0 (emb s o v) := by
  unfold level_Explicit.emb
  rcases h with ⟨h1, h2, h3, h4⟩ | ⟨t, e, h1, h2, h3, h4, h5, h6⟩
  · rw [pushOk_no (by omega)]
    simp only [Bool.false_eq_true, if_false]
    rw [if_neg (by omega)]
    exact .inl ⟨h1, h2, h3, h4⟩
  · by_cases hp : pushOk s.p s.q (nx (level_Explicit.top s).f0 o) = true
    · rw [if_pos hp, if_pos hp]
      refine .inr ⟨_ :: t, e, by show _ :: s.st = _; rw [h1]; rfl, h2, h3, h4, ?_, ?_⟩
      · rw [List.countP_cons_of_neg (by simp)]; exact h5
      · rw [List.countP_cons_of_neg (by simp)]; exact h6
    · rw [if_neg hp, if_neg hp]
      exact .inr ⟨t, e, h1, h2, h3, h4, h5, h6⟩
theorem Inv.iso {d : Nat} {s0 s : S} (h : Inv d s0 s) (o : Int) : Inv (d + 1) s0 (iso s o) := by
  unfold level_Explicit.iso
  rcases h with ⟨h1, h2, h3, h4⟩ | ⟨t, e, h1, h2, h3, h4, h5, h6⟩
  · rw [pushOk_no (by omega)]
    simp only [Bool.false_eq_true, if_false]
    exact .inl ⟨by show s.p + 1 = _; omega, h2, h3, h4⟩
  · by_cases hp : pushOk s.p s.q (nx (level_Explicit.top s).f0 o) = true
    · rw [if_pos hp, if_pos hp, if_pos hp]
      refine .inr ⟨_ :: t, e, by show _ :: s.st = _; rw [h1]; rfl, h2, h3, h4, ?_, ?_⟩
      · rw [List.countP_cons_of_pos (by simp)]; show s.p + _ = _; omega
      · rw [List.countP_cons_of_pos (by simp)]; show s.z + 1 = _; omega
    · rw [if_neg hp, if_neg hp, if_neg hp]
      exact .inr ⟨t, e, h1, h2, h3, h4, by show s.p + 1 + _ = _; omega, h6⟩
theorem Inv.pdf {d : Nat} {s0 s : S} (h : Inv d s0 s) : Inv d s0 (pdf s) := by
  unfold level_Explicit.pdf
  rcases h with ⟨h1, h2, h3, h4⟩ | ⟨t, e, h1, h2, h3, h4, h5, h6⟩
  · rw [if_pos (by omega), if_pos (.inl (by omega))]
    exact .inl ⟨h1, h2, h3, h4⟩
  · by_cases hc : 0 < s.p ∨ 0 < s.q ∨ (level_Explicit.top s).f2 = true ∨ s.st.tail = []
    · rw [if_pos hc]
      exact .inr ⟨t, e, h1, h2, h3, h4, h5, h6⟩
    · rw [if_neg hc]
      cases t with
      | nil => exact absurd (.inr (.inr (.inl (by unfold level_Explicit.top; rw [h1]; exact h2)))) hc
      | cons x t =>
        have hx : ¬ (x.f2 = true) := fun e => hc (.inr (.inr (.inl (by unfold level_Explicit.top; rw [h1]; exact e))))
        rw [List.countP_cons_of_neg hx] at h5 h6
        exact .inr ⟨t, e, by show s.st.tail = _; rw [h1]; rfl, h2, h3, h4, h5, h6⟩
theorem drp_in (e : E) (he : e.f2 = true) (u : List E) : ∀ t : List E, 0 < t.countP (fun e => e.f2) → ∃ t', (drp (t ++ e :: u)).tail = t' ++ e :: u ∧ t'.countP (fun e => e.f2) + 1 = t.countP (fun e => e.f2)
  | [], h => by simp at h
  | x :: t, h => by
    rw [List.cons_append, drp_cons]
    by_cases hx : x.f2 = true
    · rw [if_pos hx, List.countP_cons_of_pos hx]
      exact ⟨t, rfl, rfl⟩
    · rw [List.countP_cons_of_neg hx] at h ⊢
      rw [if_neg hx]
      exact drp_in e he u t h
theorem drp_out (e : E) (he : e.f2 = true) (u : List E) : ∀ t : List E, t.countP (fun e => e.f2) = 0 → (drp (t ++ e :: u)).tail = u
  | [], h => by
    rw [List.nil_append, drp_cons, if_pos he]
    rfl
  | x :: t, h => by
    rw [List.cons_append, drp_cons]
    by_cases hx : x.f2 = true
    · rw [List.countP_cons_of_pos hx] at h
      omega
    · rw [List.countP_cons_of_neg hx] at h
      rw [if_neg hx]
      exact drp_out e he u t h
theorem Inv.pdi {d : Nat} {s0 s : S} (h : Inv (d + 1) s0 s) : Inv d s0 (pdi s) := by
  unfold level_Explicit.pdi
  rcases h with ⟨h1, h2, h3, h4⟩ | ⟨t, e, h1, h2, h3, h4, h5, h6⟩
  · rw [if_neg (by omega), if_neg (by omega), if_neg (by omega)]
    exact .inl ⟨by show s.p - 1 = _; omega, h2, h3, h4⟩
  · by_cases hp : s.p = 0
    · rw [if_pos ⟨hp, by omega⟩, if_pos hp, if_pos ⟨hp, by omega⟩]
      obtain ⟨t', h7, h8⟩ := drp_in e h2 s0.st t (by omega)
      exact .inr ⟨t', e, by show (drp s.st).tail = _; rw [h1, h7], h2, h3, h4, by show s.p - 1 + _ = _; omega, by show s.z - 1 = _; omega⟩
    · rw [if_neg (fun h => hp h.1), if_neg hp, if_neg (fun h => hp h.1)]
      exact .inr ⟨t, e, h1, h2, h3, h4, by show s.p - 1 + _ = _; omega, h6⟩
theorem Inv.out {s0 s : S} (h : Inv 0 s0 s) : level_Explicit.pdi s = s0 := by
  unfold level_Explicit.pdi
  obtain ⟨p0, q0, z0, st0⟩ := s0
  rcases h with ⟨h1, h2, h3, h4⟩ | ⟨t, e, h1, h2, h3, h4, h5, h6⟩
  · rw [if_neg (by omega), if_neg (by omega), if_neg (by omega), h1, h2, h3, h4]
    rfl
  · simp only at h1 h3 h4 h6
    rw [if_pos ⟨by omega, by omega⟩, if_pos (by omega), if_pos ⟨by omega, by omega⟩, h1, drp_out e h2 st0 t (by omega)]
    congr 1
    · omega
    · exact h4.symm
    · omega
theorem Inv.s1 {d : Nat} {s0 s : S} (h : Inv d s0 s) {c : Int} (hc : c ≠ 22) : Inv d s0 (s1 s c) := by
  unfold level_Explicit.s1
  split
  · exact h.emb _ _
  split
  · exact h.emb _ _
  split
  · exact h.emb _ _
  split
  · exact h.emb _ _
  split
  · exact h.pdf
  exact h
theorem Inv.first (s0 : S) (o : Int) : Inv 0 s0 (level_Explicit.iso s0 o) := by
  unfold level_Explicit.iso
  by_cases hp : pushOk s0.p s0.q (nx (level_Explicit.top s0).f0 o) = true
  · rw [if_pos hp, if_pos hp, if_pos hp]
    have := pushOk_le hp
    exact .inr ⟨[], ⟨nx (level_Explicit.top s0).f0 o, -1, true⟩, rfl, rfl, this.2.1, this.2.2, by show s0.p + 0 = 0; omega, rfl⟩
  · rw [if_neg hp, if_neg hp, if_neg hp]
    exact .inl ⟨rfl, rfl, rfl, rfl⟩
theorem at_mid (u : List Int) (c : Int) (r : List Int) : at' (u ++ c :: r) u.length = c := by
  unfold at'
  rw [List.getD_eq_getElem?_getD, List.getElem?_append_right (Nat.le_refl _), Nat.sub_self]
  rfl
theorem sat_mid (u : List Int) (c : Int) (r : List Int) (b : Int) : sat (u ++ c :: r) b (u.length + 1) = stp c r (sat (u ++ c :: r) b u.length) := by
  rw [sat_stp _ _ _ (by simp), at_mid]
  congr 1
  rw [List.drop_append, List.drop_of_length_le (by omega), show u.length + 1 - u.length = 1 by omega]
  rfl
/-- Ahead of it nothing changes. -/
theorem sat_front (x y : List Int) (hxy : ∀ d, levi x d = levi y d) (b : Int) : ∀ (v u : List Int), sat (u ++ (v ++ x)) b u.length = sat (u ++ (v ++ y)) b u.length → sat (u ++ (v ++ x)) b (u.length + v.length) = sat (u ++ (v ++ y)) b (u.length + v.length)
  | [], u, h => h
  | c :: v, u, h => by
    have h1 : sat (u ++ [c] ++ (v ++ x)) b (u ++ [c]).length = sat (u ++ [c] ++ (v ++ y)) b (u ++ [c]).length := by
      have hx := sat_mid u c (v ++ x) b
      have hy := sat_mid u c (v ++ y) b
      rw [List.cons_append, List.cons_append] at h
      rw [List.append_assoc, List.append_assoc, List.length_append]
      show sat (u ++ c :: (v ++ x)) b (u.length + 1) = sat (u ++ c :: (v ++ y)) b (u.length + 1)
      rw [hx, hy, h]
      unfold stp
      rw [levi_ahead v x y hxy 0]
    have := sat_front x y hxy b v (u ++ [c]) h1
    rw [List.append_assoc, List.append_assoc] at this
    have e : (u ++ [c]).length + v.length = u.length + (c :: v).length := by simp; omega
    rw [e] at this
    exact this
theorem sat_in (b : Int) (s0 : S) (r : List Int) : ∀ (v u : List Int) (d : Nat), clsd v d = true → Inv d s0 (sat (u ++ (v ++ r)) b u.length) → Inv 0 s0 (sat (u ++ (v ++ r)) b (u.length + v.length))
  | [], u, d, hc, h => by
    obtain rfl : d = 0 := by simpa [clsd] using hc
    exact h
  | c :: v, u, d, hc, h => by
    have key : ∀ d', clsd v d' = true → Inv d' s0 (stp c (v ++ r) (sat (u ++ c :: (v ++ r)) b u.length)) → Inv 0 s0 (sat (u ++ (c :: v ++ r)) b (u.length + (c :: v).length)) := fun d' h1 h2 => by
      rw [← sat_mid] at h2
      have := sat_in b s0 r v (u ++ [c]) d' h1 (by rw [List.append_assoc, List.length_append]; exact h2)
      rw [List.append_assoc] at this
      have e : (u ++ [c]).length + v.length = u.length + (c :: v).length := by simp; omega
      rw [e] at this
      exact this
    unfold clsd at hc
    by_cases hi : ini c = true
    · rw [if_pos hi] at hc
      refine key (d + 1) hc ?_
      obtain ⟨o, ho⟩ := stp_ini hi (v ++ r) (sat (u ++ c :: (v ++ r)) b u.length)
      rw [ho]
      exact h.iso o
    · rw [if_neg hi] at hc
      by_cases h22 : c = 22
      · rw [if_pos h22] at hc
        cases d with
        | zero => cases hc
        | succ d =>
          refine key d hc ?_
          rw [stp_not hi, h22]
          rw [h22] at h
          exact h.pdi
      · rw [if_neg h22] at hc
        refine key d hc ?_
        rw [stp_not hi]
        exact h.s1 h22
/-- Behind it nothing changes. -/
theorem sat_back (b : Int) : ∀ (v u w : List Int), sat (u ++ v) b u.length = sat (w ++ v) b w.length → ∀ j, j ≤ v.length → sat (u ++ v) b (u.length + j) = sat (w ++ v) b (w.length + j)
  | [], u, w, h, j, hj => by
    obtain rfl : j = 0 := by simpa using hj
    exact h
  | c :: v, u, w, h, 0, hj => h
  | c :: v, u, w, h, j + 1, hj => by
    have h1 : sat (u ++ [c] ++ v) b (u ++ [c]).length = sat (w ++ [c] ++ v) b (w ++ [c]).length := by
      rw [List.append_assoc, List.append_assoc, List.length_append, List.length_append]
      show sat (u ++ c :: v) b (u.length + 1) = sat (w ++ c :: v) b (w.length + 1)
      rw [sat_mid, sat_mid, h]
    have := sat_back b v (u ++ [c]) (w ++ [c]) h1 j (by simpa using hj)
    rw [List.append_assoc, List.append_assoc] at this
    have e1 : (u ++ [c]).length + j = u.length + (j + 1) := by simp; omega
    have e2 : (w ++ [c]).length + j = w.length + (j + 1) := by simp; omega
    rw [e1, e2] at this
    exact this
theorem at_lt (a c : List Int) (i : Nat) (hi : i < a.length) : at' (a ++ c) i = at' a i := by
  unfold at'
  rw [List.getD_eq_getElem?_getD, List.getD_eq_getElem?_getD, List.getElem?_append_left hi]
theorem at_ge (a c : List Int) (j : Nat) : at' (a ++ c) (a.length + j) = at' c j := by
  unfold at'
  rw [List.getD_eq_getElem?_getD, List.getD_eq_getElem?_getD, List.getElem?_append_right (by omega), show a.length + j - a.length = j by omega]
theorem sat_take (a x y : List Int) (hxy : ∀ d, levi x d = levi y d) (b : Int) (i : Nat) (hi : i ≤ a.length) : sat (a ++ x) b i = sat (a ++ y) b i := by
  have h := sat_front (a.drop i ++ x) (a.drop i ++ y) (levi_ahead _ x y hxy) b (a.take i) [] rfl
  have e1 : (a.take i).length = i := by rw [List.length_take]; omega
  simp only [List.nil_append, List.length_nil, Nat.zero_add, e1] at h
  rw [← List.append_assoc, ← List.append_assoc, List.take_append_drop] at h
  exact h
/-- What stands in an isolate changes nothing around it. -/
theorem isolates (a n v : List Int) (o b : Int) (ho : ini o = true) (hn : clsd n 0 = true) (i : Nat) (hi : i < a.length + 2 + v.length) :
    let l := a ++ o :: 22 :: v
    let m := a ++ o :: (n ++ 22 :: v)
    let k := if i > a.length then i + n.length else i
    lv l b i = lv m b k ∧ tv l b i = tv m b k := by
  intro l m k
  have hxy : ∀ d, levi (o :: 22 :: v) d = levi (o :: (n ++ 22 :: v)) d := fun d => by
    rw [levi_iso o ho n v d hn]
    exact levi_iso o ho [] v d rfl
  have hs0 : ∀ j, j ≤ a.length → sat l b j = sat m b j := fun j hj => sat_take a _ _ hxy b j hj
  by_cases h1 : i ≤ a.length
  · have hk : k = i := if_neg (by omega)
    rw [hk]
    unfold lv tv
    have hat : at' l i = at' m i := by
      by_cases h2 : i < a.length
      · rw [at_lt a _ i h2, at_lt a _ i h2]
      · obtain rfl : i = a.length := by omega
        rw [at_mid, at_mid]
    rw [hs0 i h1, hat]
    exact ⟨rfl, rfl⟩
  · have hk : k = i + n.length := if_pos (by omega)
    rw [hk]
    -- the states at the PDI
    have hl1 : Inv 0 (sat l b a.length) (sat l b (a.length + 1)) := by
      obtain ⟨q, hq⟩ := stp_ini ho (22 :: v) (sat l b a.length)
      rw [show sat l b (a.length + 1) = _ from sat_mid a o (22 :: v) b, hq]
      exact Inv.first _ q
    have hm1 : Inv 0 (sat l b a.length) (sat m b (a.length + 1)) := by
      obtain ⟨q, hq⟩ := stp_ini ho (n ++ 22 :: v) (sat m b a.length)
      rw [show sat m b (a.length + 1) = _ from sat_mid a o (n ++ 22 :: v) b, hq, hs0 _ (Nat.le_refl _)]
      exact Inv.first _ q
    have hm2 : Inv 0 (sat l b a.length) (sat m b (a.length + 1 + n.length)) := by
      have := sat_in b (sat l b a.length) (22 :: v) n (a ++ [o]) 0 hn (by rw [List.append_assoc, List.length_append]; exact hm1)
      rw [List.append_assoc, List.length_append] at this
      exact this
    have al : ∀ j, at' l (a.length + 1 + j) = at' (22 :: v) j := fun j => by
      have := at_ge (a ++ [o]) (22 :: v) j
      rw [List.append_assoc, List.length_append] at this
      exact this
    have am : ∀ j, at' m (a.length + 1 + n.length + j) = at' (22 :: v) j := fun j => by
      have := at_ge (a ++ [o] ++ n) (22 :: v) j
      simp only [List.append_assoc, List.length_append] at this
      rw [← Nat.add_assoc] at this
      exact this
    obtain ⟨j, rfl⟩ : ∃ j, i = a.length + 1 + j := ⟨i - (a.length + 1), by omega⟩
    rw [show a.length + 1 + j + n.length = a.length + 1 + n.length + j by omega]
    unfold lv tv
    rw [al j, am j]
    cases j with
    | zero =>
      show (if gone 22 = true then -1 else at1 b (sat l b (a.length + 1)) 22) = (if gone 22 = true then -1 else at1 b (sat m b (a.length + 1 + n.length)) 22) ∧ as1 (sat l b (a.length + 1)) 22 = as1 (sat m b (a.length + 1 + n.length)) 22
      have e1 : ∀ s, at1 b s 22 = (level_Explicit.top (pdi s)).f0 := fun s => rfl
      have e2 : ∀ s, as1 s 22 = see (pdi s) 22 := fun s => rfl
      rw [e1, e1, e2, e2, hl1.out, hm2.out]
      exact ⟨rfl, rfl⟩
    | succ j =>
      have hl3 : sat l b (a.length + 1 + 1) = sat l b a.length := by
        have := sat_mid (a ++ [o]) 22 v b
        rw [List.append_assoc, List.length_append] at this
        refine this.trans ?_
        rw [stp_not (by decide)]
        exact hl1.out
      have hm3 : sat m b (a.length + 1 + n.length + 1) = sat l b a.length := by
        have := sat_mid (a ++ [o] ++ n) 22 v b
        simp only [List.append_assoc, List.length_append] at this
        rw [← Nat.add_assoc] at this
        refine this.trans ?_
        rw [stp_not (by decide)]
        exact hm2.out
      have hb := sat_back b v (a ++ [o] ++ [22]) (a ++ [o] ++ n ++ [22]) (by
        simp only [List.append_assoc, List.length_append, List.length_cons, List.length_nil]
        rw [show a.length + (0 + 1 + (0 + 1)) = a.length + 1 + 1 by omega, show a.length + (0 + 1 + (n.length + (0 + 1))) = a.length + 1 + n.length + 1 by omega]
        exact hl3.trans hm3.symm) j (by omega)
      simp only [List.append_assoc, List.length_append, List.length_cons, List.length_nil] at hb
      rw [show a.length + (0 + 1 + (0 + 1)) + j = a.length + 1 + (j + 1) by omega, show a.length + (0 + 1 + (n.length + (0 + 1))) + j = a.length + 1 + n.length + (j + 1) by omega] at hb
      have hb' : sat l b (a.length + 1 + (j + 1)) = sat m b (a.length + 1 + n.length + (j + 1)) := hb
      rw [hb']
      exact ⟨rfl, rfl⟩
end Go.Proofs.Ytekllnpmioinfaa.PC11
