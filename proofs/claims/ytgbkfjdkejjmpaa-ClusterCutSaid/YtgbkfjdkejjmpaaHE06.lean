/- Chapter 6: the clusters of a row of runes, as groups of runes; cluster.Of and the document's Of tell them. Conditions: whole numbers of 64 bits; at most 100000 runes. -/
import Derived.Test.YtgbkfjdkejjmpaaHD06
import Derived.Test.YtgbkfjdkejjmpaaHZ06
namespace Go.Proofs.Ytgbkfjdkejjmpaa.PC06
open Go.RowKit Go.Proofs.YtgbkfjdkejjmpaaW.PrintWords Go.Proofs.YtgbkfjdkejjmpaaW.PrintLast Go.Proofs.YtgbkfjdkejjmpaaW.PrintMore Go.Proofs.YtgbkfjdkejjmpaaH
set_option linter.unusedVariables false
set_option linter.unusedSimpArgs false
open Q05 (gk pk rng)
open Q04 (colsV)

/-! ### how wide -/
def pv : Option Int → Bool
  | none => false
  | some q => pk q
def wgo (p : Option Int) (n : Int) : List Int → Int
  | [] => n
  | c :: r => if c = 65039 ∧ pv p = true then 2 else wgo (some c) (mx n (colsV c)) r
def wid : List Int → Int
  | [] => 0
  | c :: r => if aln (gk c) = true then 0 else wgo none 0 (c :: r)
def lastOf (p : Option Int) : List Int → Option Int
  | [] => p
  | c :: r => lastOf (some c) r
theorem wgo_snoc : ∀ (cs : List Int) (p : Option Int) (n r : Int), n ≤ 2 → wgo p n (cs ++ [r]) = if r = 65039 ∧ pv (lastOf p cs) = true then 2 else mx (wgo p n cs) (colsV r)
  | [], p, n, r, hn => rfl
  | c :: cs, p, n, r, hn => by
    have h1 := Q04.colsV_range c
    have h2 := Q04.colsV_range r
    have hm : mx n (colsV c) ≤ 2 := by rw [mx_max]; omega
    have ih := wgo_snoc cs (some c) (mx n (colsV c)) r hm
    rw [List.cons_append]
    unfold wgo lastOf
    by_cases hc : c = 65039 ∧ pv p = true
    · rw [if_pos hc, if_pos hc, mx_max]
      split <;> omega
    · rw [if_neg hc, if_neg hc]
      exact ih
theorem lastOf_snoc : ∀ (cs : List Int) (p : Option Int) (r : Int), lastOf p (cs ++ [r]) = some r
  | [], p, r => rfl
  | c :: cs, p, r => lastOf_snoc cs (some c) r
theorem wgo_range : ∀ (cs : List Int) (p : Option Int) (n : Int), 0 ≤ n → n ≤ 2 → 0 ≤ wgo p n cs ∧ wgo p n cs ≤ 2
  | [], p, n, h0, h2 => ⟨h0, h2⟩
  | c :: cs, p, n, h0, h2 => by
    have h1 := Q04.colsV_range c
    unfold wgo
    split
    · omega
    · exact wgo_range cs _ _ (by rw [mx_max]; omega) (by rw [mx_max]; omega)
theorem wid_cons (c : Int) (r : List Int) : wid (c :: r) = if aln (gk c) = true then 0 else wgo none 0 (c :: r) := rfl
theorem wid_range : ∀ cs : List Int, 0 ≤ wid cs ∧ wid cs ≤ 2
  | [] => ⟨Int.le_refl _, by decide⟩
  | c :: r => by
    rw [wid_cons]
    split
    · exact ⟨Int.le_refl _, by decide⟩
    · exact wgo_range _ _ _ (by decide) (by decide)

/-! ### clusters -/
def siz (g : List Rn) : Int := g.foldl (fun s r => wrap64 (s + r.f1)) 0
def hd (g : List Rn) : Rn := g.headD ⟨0, 0, 0⟩
def cds (g : List Rn) : List Int := g.map fun r => r.f2
def mkC (g : List Rn) (n : Nat) : Cl := ⟨(hd g).f0, siz g, (n : Int), ((n + g.length : Nat) : Int), wid (cds g), (hd g).f2⟩
/-- The groups of runes that stand as one: those that begin with the runes cur. -/
def grps : List Rn → List Rn → List Int → List (List Rn)
  | [], cur, _ => [cur]
  | r :: t, cur, pre => if Jb pre r.f2 = true then grps t (cur ++ [r]) (r.f2 :: pre) else cur :: grps t [r] (r.f2 :: pre)
def grp : List Rn → List (List Rn)
  | [] => []
  | r :: t => grps t [r] [r.f2]
def mks : List (List Rn) → Nat → List Cl
  | [], _ => []
  | g :: gs, n => mkC g n :: mks gs (n + g.length)
def cls (l : List Rn) : List Cl := mks (grp l) 0
def okR (r : Rn) : Prop := rng r.f0 ∧ rng r.f1 ∧ rng r.f2

/-! ### what joins, by the last kind -/
set_option maxRecDepth 100000 in
theorem two_23 : ∀ m : Nat, m < 14 → twoV 2 (m : Int) = false ∧ twoV 3 (m : Int) = false ∧ twoV 1 (m : Int) = ((m : Int) == 2) ∧ twoV (m : Int) 1 = false ∧ twoV (m : Int) 3 = false := by decide +kernel
theorem fl_z (a : Int) (pre : List Int) (h : gk a ≠ 6) : fl (a :: pre) = 0 := by rw [fl_cons, if_neg h]
theorem jb_low (a b : Int) (pre : List Int) (h : gk a = 1 ∨ gk a = 2 ∨ gk a = 3) : Jb (a :: pre) b = (gk a == 1 && gk b == 2) := by
  have h5 : (gk a == 5) = false := beq_eq_false_iff_ne.2 (by omega)
  unfold Jb
  simp only
  rw [two_eq, tie_two, fl_z a pre (by omega), h5]
  have ht : twoV (gk a) (gk b) = (gk a == 1 && gk b == 2) := by
    rcases h with h | h | h
    · rw [h]; exact kinds14 (fun y => twoV 1 y = ((1 : Int) == 1 && y == 2)) (fun m hm => (two_23 m hm).2.2.1) b
    · rw [h]; exact kinds14 (fun y => twoV 2 y = ((2 : Int) == 1 && y == 2)) (fun m hm => (two_23 m hm).1) b
    · rw [h]; exact kinds14 (fun y => twoV 3 y = ((3 : Int) == 1 && y == 2)) (fun m hm => (two_23 m hm).2.1) b
  rw [ht]
  simp
theorem jb_into (a b : Int) (pre : List Int) (h : Jb (a :: pre) b = true) : gk b ≠ 1 ∧ gk b ≠ 3 := by
  have key : (gk b = 1 ∨ gk b = 3) → Jb (a :: pre) b = false := fun hb => by
    have hp : pk b = false := by
      cases hp : pk b with
      | false => rfl
      | true => have := pk_gk b hp; omega
    unfold Jb
    simp only
    rw [two_eq, hp, beq_eq_false_iff_ne.2 (show gk b ≠ 6 by omega)]
    have ht : twoV (gk a) (gk b) = false := by
      rcases hb with hb | hb
      · rw [hb]; exact kinds14 (fun y => twoV y 1 = false) (fun m hm => (two_23 m hm).2.2.2.1) a
      · rw [hb]; exact kinds14 (fun y => twoV y 3 = false) (fun m hm => (two_23 m hm).2.2.2.2) a
    rw [ht]
    rfl
  constructor
  · intro e; rw [key (.inl e)] at h; cases h
  · intro e; rw [key (.inr e)] at h; cases h
theorem aln_iff (k : Int) : aln k = true ↔ k = 1 ∨ k = 2 ∨ k = 3 := by simp [aln]
/-- How the runes of one cluster are made. -/
structure Grp (cur : List Rn) (a : Int) : Prop where
  ne : cur ≠ []
  last : lastOf none (cds cur) = some a
  alone : aln (gk (hd cur).f2) = true → gk a = 1 ∨ gk a = 2 ∨ gk a = 3
  cr : gk a = 1 → aln (gk (hd cur).f2) = true
theorem Grp.one (r : Rn) : Grp [r] r.f2 := ⟨by simp, rfl, fun h => (aln_iff _).1 h, fun h => (aln_iff _).2 (.inl h)⟩
theorem hd_app (cur : List Rn) (t : List Rn) (h : cur ≠ []) : hd (cur ++ t) = hd cur := by
  cases cur with
  | nil => exact absurd rfl h
  | cons x c => rfl
theorem cds_app (a b : List Rn) : cds (a ++ b) = cds a ++ cds b := by simp [cds]
theorem Grp.more {cur : List Rn} {a : Int} (h : Grp cur a) {pre : List Int} {r : Rn} (hj : Jb (a :: pre) r.f2 = true) : Grp (cur ++ [r]) r.f2 := by
  have h1 := jb_into a r.f2 pre hj
  refine ⟨by simp, ?_, fun ha => ?_, fun e => absurd e h1.1⟩
  · rw [cds_app]; exact lastOf_snoc _ _ _
  · rw [hd_app _ _ h.ne] at ha
    rw [jb_low a r.f2 pre (h.alone ha), Bool.and_eq_true, beq_iff_eq, beq_iff_eq] at hj
    exact .inr (.inl hj.2)
theorem siz_snoc (g : List Rn) (r : Rn) : siz (g ++ [r]) = wrap64 (siz g + r.f1) := by simp [siz, List.foldl_append]
theorem wid_more {cur : List Rn} {a : Int} (h : Grp cur a) {pre : List Int} {r : Rn} (hj : Jb (a :: pre) r.f2 = true) :
    wid (cds (cur ++ [r])) = if (gk a == 1) = true then wid (cds cur) else if (r.f2 == 65039) = true then (if pk a = true then 2 else max (wid (cds cur)) (colsV r.f2)) else max (wid (cds cur)) (colsV r.f2) := by
  obtain ⟨x, c, rfl⟩ : ∃ x c, cur = x :: c := by
    cases cur with
    | nil => exact absurd rfl h.ne
    | cons x c => exact ⟨x, c, rfl⟩
  have e1 : cds (x :: c ++ [r]) = x.f2 :: (cds c ++ [r.f2]) := by simp [cds]
  have e2 : cds (x :: c) = x.f2 :: cds c := rfl
  have hh : (hd (x :: c)).f2 = x.f2 := rfl
  have hal := h.alone
  rw [hh] at hal
  rw [e1, e2, wid_cons, wid_cons]
  by_cases ha : aln (gk x.f2) = true
  · have h3 := hal ha
    rw [jb_low a r.f2 pre h3, Bool.and_eq_true] at hj
    rw [if_pos ha, if_pos ha, if_pos hj.1]
  · have h1 : gk a ≠ 1 := fun e => ha (by have := h.cr e; rw [hh] at this; exact this)
    have hl := h.last
    rw [e2] at hl
    rw [if_neg ha, if_neg ha, if_neg (fun e => h1 (beq_iff_eq.1 e)), ← List.cons_append, wgo_snoc _ _ _ _ (by omega), hl, mx_max]
    by_cases h2 : r.f2 = 65039
    · rw [if_pos (beq_iff_eq.2 h2)]
      cases hp : pk a with
      | true => rw [if_pos ⟨h2, hp⟩, if_pos rfl]
      | false => rw [if_neg (fun e => by have h := e.2; rw [show pv (some a) = pk a from rfl, hp] at h; cases h), if_neg (by decide)]
    · rw [if_neg (fun e => h2 e.1), if_neg (fun e => h2 (beq_iff_eq.1 e))]
theorem mkC_more {cur : List Rn} {a : Int} (h : Grp cur a) {pre : List Int} {r : Rn} (hj : Jb (a :: pre) r.f2 = true) (n : Nat) (hn : n + cur.length < 1000000) :
    cluster_Of.grow (mkC cur n) r.f1 r.f2 (gk a) (pk a) (colsV r.f2) (((n + cur.length : Nat) : Int) + 1) = mkC (cur ++ [r]) n := by
  unfold cluster_Of.grow mkC
  rw [hd_app _ _ h.ne, siz_snoc, wid_more h hj]
  simp only [List.length_append, List.length_cons, List.length_nil]
  congr 1
theorem rng_w {x : Int} (h : rng x) : wrap64 x = x := w64 h.1 h.2
theorem mkC_one (r : Rn) (h : rng r.f1) (i : Nat) (hi : i < 1000000) : (⟨r.f0, r.f1, (i : Int), wrap64 ((i : Int) + 1), if gk r.f2 ≥ 1 then (if gk r.f2 ≤ 3 then 0 else colsV r.f2) else colsV r.f2, r.f2⟩ : Cl) = mkC [r] i := by
  have h1 := gk_range r.f2
  have h2 := Q04.colsV_range r.f2
  have e1 : siz [r] = r.f1 := by
    show wrap64 (0 + r.f1) = r.f1
    rw [Int.zero_add]
    exact rng_w h
  have e2 : wid (cds [r]) = if gk r.f2 ≥ 1 then (if gk r.f2 ≤ 3 then 0 else colsV r.f2) else colsV r.f2 := by
    have e3 : wgo none 0 [r.f2] = mx 0 (colsV r.f2) := by
      unfold wgo
      rw [if_neg (fun e => by cases e.2)]
      rfl
    show wid [r.f2] = _
    rw [wid_cons, e3, mx_max]
    by_cases ha : gk r.f2 = 1 ∨ gk r.f2 = 2 ∨ gk r.f2 = 3
    · rw [if_pos ((aln_iff _).2 ha), if_pos (by omega), if_pos (by omega)]
    · rw [if_neg (fun e => ha ((aln_iff _).1 e))]
      split
      · rw [if_neg (by omega)]; omega
      · omega
  unfold mkC
  rw [e1, e2, w64 (by omega) (by omega)]
  rfl
theorem see_eq (r : Rn) (h : rng r.f2) : cluster_see.f r.f0 r.f1 r.f2 = some (r.f0, r.f1, r.f2, gk r.f2, colsV r.f2, pk r.f2) := by
  unfold cluster_see.f
  rw [Q05.of_eq _ h, Q05.pict_eq, Q04.of_eq]
  rfl
theorem then_any (z0 z1 z2 z3 z4 : Int) (z5 : Bool) (y0 y1 y2 y4 : Int) (b : Int) (pre : List Int) (hl : pre.length < 1000000) : cluster_seen_then.f z0 z1 z2 z3 z4 z5 (tie pre) (fl pre : Int) y0 y1 y2 (gk b) y4 (pk b) = some (y0, y1, y2, gk b, y4, pk b, tie (b :: pre), (fl (b :: pre) : Int)) :=
  then_eq z0 z1 z2 z4 y0 y1 y2 y4 b b pre hl 0
theorem set_last (out : List Cl) (x y : Cl) : (out ++ [x]).set ((out ++ [x]).length - 1) y = out ++ [y] := by
  rw [List.length_append, List.length_cons, List.length_nil, Nat.add_sub_cancel, List.set_append_right _ _ (Nat.le_refl _), Nat.sub_self]
  rfl
theorem get_last (out : List Cl) (x : Cl) : (out ++ [x]).getD ((out ++ [x]).length - 1) z39 = x := by
  rw [List.length_append, List.length_cons, List.length_nil, Nat.add_sub_cancel, List.getD_eq_getElem?_getD, List.getElem?_append_right (Nat.le_refl _), Nat.sub_self]
  rfl
theorem lp_eq : ∀ (t : List Rn) (cur : List Rn) (a : Int) (pre : List Int) (out : List Cl) (n : Nat) (z0 z1 z2 z4 : Int), Grp cur a → (∀ r ∈ t, okR r) → n + cur.length + t.length < 1000000 → out.length ≤ n → pre.length < n + cur.length →
    cluster_Of.lp t (out ++ [mkC cur n]) z0 z1 z2 (gk a) z4 (pk a) (tie (a :: pre)) (fl (a :: pre) : Int) (n + cur.length) = some (out ++ mks (grps t cur (a :: pre)) n)
  | [], cur, a, pre, out, n, z0, z1, z2, z4, hG, ht, hl, ho, hp => by
    unfold cluster_Of.lp grps mks mks
    rfl
  | r :: t, cur, a, pre, out, n, z0, z1, z2, z4, hG, ht, hl, ho, hp => by
    obtain ⟨h0, h1, h2⟩ := ht r (by simp)
    have ht' : ∀ r ∈ t, okR r := fun x hx => ht x (by simp [hx])
    have hcl : 0 < cur.length := List.length_pos_iff.2 hG.ne
    simp only [List.length_cons] at hl
    unfold cluster_Of.lp
    rw [see_eq r h2]
    simp only [Option.bind_some]
    rw [then_any _ _ _ _ _ _ _ _ _ _ _ (a :: pre) (by simp only [List.length_cons]; omega), joins_eq]
    simp only [Option.bind_some]
    rw [if_neg (by omega)]
    unfold grps
    by_cases hj : Jb (a :: pre) r.f2 = true
    · rw [if_pos hj, if_pos hj, if_pos (by simp), set_last, get_last, mkC_more hG hj n (by omega)]
      have := lp_eq t (cur ++ [r]) r.f2 (a :: pre) out n r.f0 r.f1 r.f2 (colsV r.f2) (hG.more hj) ht' (by simp; omega) ho (by simp; omega)
      rw [List.length_append, List.length_cons, List.length_nil, ← Nat.add_assoc, Nat.zero_add] at this
      exact this
    · rw [if_neg hj, if_neg hj, if_pos (by simp; omega)]
      unfold cluster_first.f
      simp only [Option.bind_some]
      rw [mkC_one r h1 _ (by omega)]
      have := lp_eq t [r] r.f2 (a :: pre) (out ++ [mkC cur n]) (n + cur.length) r.f0 r.f1 r.f2 (colsV r.f2) (Grp.one r) ht' (by simp; omega) (by simp; omega) (by simp; omega)
      rw [show n + cur.length + [r].length = n + cur.length + 1 from rfl] at this
      rw [this]
      show _ = some (out ++ mkC cur n :: mks _ (n + cur.length))
      simp
theorem of_eq (l : List Rn) (h : ∀ r ∈ l, okR r) (hl : l.length < 1000000) : cluster_Of.f l = some (cls l) := by
  cases l with
  | nil => rfl
  | cons r t =>
    obtain ⟨h0, h1, h2⟩ := h r (by simp)
    unfold cluster_Of.f cluster_Of.lp
    rw [see_eq r h2]
    simp only [Option.bind_some]
    have e := then_any 0 0 0 0 0 false r.f0 r.f1 r.f2 (colsV r.f2) r.f2 [] (by simp)
    have e2 : tie [] = 0 := rfl
    have e3 : ((fl [] : Nat) : Int) = 0 := rfl
    rw [e2, e3] at e
    rw [e]
    simp only [Option.bind_some]
    rw [if_pos trivial, if_pos (by simp)]
    unfold cluster_first.f
    simp only [Option.bind_some]
    rw [mkC_one r h1 0 (by omega)]
    have := lp_eq t [r] r.f2 [] [] 0 r.f0 r.f1 r.f2 (colsV r.f2) (Grp.one r) (fun x hx => h x (by simp [hx])) (by simp at hl ⊢; omega) (by simp) (by simp)
    exact this
theorem mks_len : ∀ (gs : List (List Rn)) (n : Nat), (mks gs n).length = gs.length
  | [], n => rfl
  | g :: gs, n => by
    show (mks gs _).length + 1 = _
    rw [mks_len gs, List.length_cons]
theorem grps_len : ∀ (t cur : List Rn) (pre : List Int), (grps t cur pre).length ≤ t.length + 1
  | [], cur, pre => Nat.le_refl _
  | r :: t, cur, pre => by
    have h1 := grps_len t (cur ++ [r]) (r.f2 :: pre)
    have h2 := grps_len t [r] (r.f2 :: pre)
    unfold grps
    split
    · simp only [List.length_cons]; omega
    · simp only [List.length_cons]; omega
theorem cls_len (l : List Rn) : (cls l).length ≤ l.length := by
  unfold cls
  rw [mks_len]
  cases l with
  | nil => exact Nat.le_refl _
  | cons r t => exact grps_len t [r] [r.f2]
end Go.Proofs.Ytgbkfjdkejjmpaa.PC06
