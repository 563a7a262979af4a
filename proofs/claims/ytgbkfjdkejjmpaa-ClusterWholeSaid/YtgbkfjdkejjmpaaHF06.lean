/- Chapter 6: the document's Wide and Of tell the same clusters; two rows that are the same; how wide clusters are together. Conditions: at most 100000 runes. -/
import Derived.Test.YtgbkfjdkejjmpaaHE06
import Derived.Test.YtgbkfjdkejjmpaaPC06x6
import Derived.Test.YtgbkfjdkejjmpaaPC06x11
import Derived.Test.YtgbkfjdkejjmpaaPC06x11
import Derived.Test.YtgbkfjdkejjmpaaPC06x6
namespace Go.Proofs.Ytgbkfjdkejjmpaa.PC06
open Go.RowKit Go.Proofs.YtgbkfjdkejjmpaaW.PrintWords Go.Proofs.YtgbkfjdkejjmpaaW.PrintLast Go.Proofs.YtgbkfjdkejjmpaaW.PrintMore Go.Proofs.YtgbkfjdkejjmpaaH
set_option linter.unusedVariables false
set_option linter.unusedSimpArgs false
open Q05 (gk pk rng)
open Q04 (colsV)

theorem wide_l0 (codes : List Int) (hl : codes.length < 1000000) : ∀ (r : List Int) (pre : List Int) (n : Int), codes = pre ++ r → Ev (fun k => parquetryref06_Wide.l0 k codes n (pre.length : Int)) (wgo (lastOf none pre) n r)
  | [], pre, n, h => by
    refine Ev.succ ?_
    simp only [parquetryref06_Wide.l0]
    exact Ev.ifn (by rw [h]; simp) (Ev.now _)
  | c :: r, pre, n, h => by
    have hlen : codes.length = pre.length + (r.length + 1) := by rw [h]; simp; try omega
    have hrd : rd codes (pre.length : Int) = c := by rw [h]; exact rd_mid pre c r
    have e1 : wrap64 ((pre.length : Int) + 1) = ((pre ++ [c]).length : Int) := by rw [w64 (by omega) (by omega)]; simp
    have ih := wide_l0 codes hl r (pre ++ [c]) (mx n (colsV c)) (by rw [h]; simp)
    rw [lastOf_snoc] at ih
    refine Ev.succ ?_
    simp only [parquetryref06_Wide.l0]
    rw [hrd, e1]
    refine Ev.ifp (by omega) (Ev.ifp (by omega) (Ev.bind (Q04.refOf_ev c) ?_))
    unfold wgo
    rcases List.eq_nil_or_concat pre with rfl | ⟨p, q, hpq⟩
    · rw [if_neg (fun e => by cases e.2)]
      exact Ev.ifn (by simp) ih
    · rw [List.concat_eq_append] at hpq
      subst hpq
      have hq : rd codes ((p.length : Nat) : Int) = q := by rw [h, List.append_assoc]; exact rd_mid p q (c :: r)
      have e2 : wrap64 (((p ++ [q]).length : Int) - 1) = (p.length : Int) := by rw [w64 (by omega) (by omega)]; simp
      rw [lastOf_snoc, show pv (some q) = pk q from rfl, e2, hq]
      refine Ev.ifp (by simp; try omega) ?_
      by_cases h1 : c = 65039
      · refine Ev.ifp h1 (Ev.ifp (by omega) (Ev.ifp (by simp at hlen; omega) (Ev.bind (Q05.refPict_ev q) ?_)))
        by_cases h2 : pk q = true
        · rw [if_pos ⟨h1, h2⟩]
          exact Ev.ifp h2 (Ev.now _)
        · rw [if_neg (fun e => h2 e.2)]
          exact Ev.ifn h2 ih
      · rw [if_neg (fun e => h1 e.1)]
        exact Ev.ifn h1 ih
theorem wide_ev (codes : List Int) (hne : codes ≠ []) (hl : codes.length < 1000000) : Ev (fun k => parquetryref06_Wide.f k codes) (wid codes) := by
  obtain ⟨c, r, rfl⟩ : ∃ c r, codes = c :: r := by
    cases codes with
    | nil => exact absurd rfl hne
    | cons c r => exact ⟨c, r, rfl⟩
  unfold parquetryref06_Wide.f
  rw [wid_cons]
  refine Ev.ifp (by simp) ?_
  rw [show rd (c :: r) 0 = c from rfl]
  refine Ev.bind (Q05.refOf_ev c) (Ev.bindc (alone_eq _) ?_)
  cases ha : aln (gk c) with
  | true =>
    rw [if_pos rfl]
    exact Ev.ifp rfl (Ev.now _)
  | false =>
    rw [if_neg (by decide)]
    exact Ev.ifn (by decide) (wide_l0 (c :: r) hl (c :: r) [] 0 rfl)
theorem rd_at37 (pre : List Rn) (x : Rn) (r : List Rn) : rd_T37 (pre ++ x :: r) (pre.length : Int) = x := by
  unfold rd_T37
  rw [Int.toNat_natCast, List.getD_eq_getElem?_getD, List.getElem?_append_right (Nat.le_refl _), Nat.sub_self]
  rfl
section
variable (l : List Rn) (hl : l.length < 1000000)
include hl
/-- The sizes of a group's runes. -/
theorem l2_ev (out : List Cl) (ho : out.length < 1000000) (res : List Cl) (x7 : Nat) (f0 f2 f3 f4 f5 : Int) : ∀ (r pre u : List Rn) (s : Int), l = pre ++ r ++ u → x7 = pre.length + r.length →
    (∀ s', s' = r.foldl (fun s x => wrap64 (s + x.f1)) s → Ev (fun k => parquetryref06_Of.l1 k l (cds l) (out ++ [(⟨f0, s', f2, f3, f4, f5⟩ : Cl)]) (x7 : Int) (wrap64 ((x7 : Int) + 1))) res) →
    Ev (fun k => parquetryref06_Of.l2 k l (cds l) out (x7 : Int) (pre.length : Int) f0 s f2 f3 f4 f5) res
  | [], pre, u, s, h, hx, H => by
    refine Ev.succ ?_
    simp only [parquetryref06_Of.l2]
    refine Ev.ifn (by simp at hx; omega) (Ev.ifp (by omega) ?_)
    exact H s rfl
  | x :: r, pre, u, s, h, hx, H => by
    have hlen : l.length = pre.length + (r.length + 1) + u.length := by rw [h]; simp; try omega
    have hrd : rd_T37 l (pre.length : Int) = x := by rw [h, List.append_assoc]; exact rd_at37 pre x (r ++ u)
    have e1 : wrap64 ((pre.length : Int) + 1) = ((pre ++ [x]).length : Int) := by rw [w64 (by omega) (by omega)]; simp
    simp only [List.length_cons] at hx
    refine Ev.succ ?_
    simp only [parquetryref06_Of.l2]
    rw [hrd, e1]
    refine Ev.ifp (by omega) (Ev.ifp (by omega) (Ev.ifp (by omega) ?_))
    exact l2_ev out ho res x7 f0 f2 f3 f4 f5 r (pre ++ [x]) u _ (by rw [h]; simp) (by simp; try omega) (fun s' hs' => H s' hs')
theorem of_l1 : ∀ (t cur done : List Rn) (a : Int) (pre : List Int) (out : List Cl), l = done ++ cur ++ t → Grp cur a → (cds (done ++ cur)).reverse = a :: pre → out.length ≤ done.length →
    Ev (fun k => parquetryref06_Of.l1 k l (cds l) out (done.length : Int) ((done.length + cur.length : Nat) : Int)) (out ++ mks (grps t cur (a :: pre)) done.length) := by
  -- the end of a group
  have close : ∀ (t cur done : List Rn) (a : Int) (out : List Cl) (res : List Cl), l = done ++ cur ++ t → Grp cur a → out.length ≤ done.length →
      (Ev (fun k => parquetryref06_Of.l1 k l (cds l) (out ++ [mkC cur done.length]) ((done.length + cur.length : Nat) : Int) ((done.length + cur.length + 1 : Nat) : Int)) res) →
      Ev (fun k => parquetryref06_Of.j2 k l (cds l) out (done.length : Int) ((done.length + cur.length : Nat) : Int) false) res := fun t cur done a out res h hG ho H => by
    have hlen : l.length = done.length + cur.length + t.length := by rw [h]; simp; try omega
    have hcl : 0 < cur.length := List.length_pos_iff.2 hG.ne
    have hcd : (cds l).length = l.length := by simp [cds]
    obtain ⟨x, c, rfl⟩ : ∃ x c, cur = x :: c := by
      cases cur with
      | nil => exact absurd rfl hG.ne
      | cons x c => exact ⟨x, c, rfl⟩
    have hr1 : rd_T37 l (done.length : Int) = x := by rw [h, List.append_assoc]; exact rd_at37 done x (c ++ t)
    have hr2 : rd (cds l) (done.length : Int) = x.f2 := by
      have := rd_mid (cds done) x.f2 (cds (c ++ t))
      rw [show (cds done).length = done.length by simp [cds]] at this
      rw [h, List.append_assoc, cds_app]
      exact this
    have hcut : ((cds l).take (((done.length + (x :: c).length : Nat) : Int)).toNat).drop ((done.length : Int)).toNat = cds (x :: c) := by
      rw [Int.toNat_natCast, Int.toNat_natCast, h, cds_app, List.take_left' (by simp [cds]), cds_app, List.drop_left' (by simp [cds])]
    refine Ev.succ ?_
    simp only [parquetryref06_Of.j2]
    rw [hcut, hr1, hr2]
    refine Ev.ifn (by decide) (Ev.ifp (by omega) (Ev.ifp (by omega) (Ev.ifp (by omega) (Ev.ifp (by omega) (Ev.ifp (by omega) (Ev.bind (wide_ev _ (by simp [cds]) (by simp [cds] at hlen ⊢; omega)) ?_))))))
    refine l2_ev l hl out (by omega) res (done.length + (x :: c).length) x.f0 (done.length : Int) ((done.length + (x :: c).length : Nat) : Int) (wid (cds (x :: c))) x.f2 (x :: c) done t 0 h rfl (fun s' hs' => ?_)
    have := H
    rw [w64 (by omega) (by omega), show ((done.length + (x :: c).length : Nat) : Int) + 1 = ((done.length + (x :: c).length + 1 : Nat) : Int) by omega, hs']
    exact this
  intro t
  induction t with
  | nil =>
    intro cur done a pre out h hG hp ho
    have hlen : l.length = done.length + cur.length := by rw [h]; simp; try omega
    refine Ev.succ ?_
    simp only [parquetryref06_Of.l1]
    refine Ev.ifp (by omega) (Ev.ifn (by omega) ?_)
    refine close [] cur done a out _ h hG ho ?_
    refine Ev.succ ?_
    simp only [parquetryref06_Of.l1]
    exact Ev.ifn (by omega) (Ev.now _)
  | cons r t ih =>
    intro cur done a pre out h hG hp ho
    have hlen : l.length = done.length + cur.length + (t.length + 1) := by rw [h]; simp; try omega
    have hcd : (cds l).length = l.length := by simp [cds]
    have hpl : pre.length + 1 = done.length + cur.length := by
      have := congrArg List.length hp
      simp [cds] at this
      omega
    have hcl : 0 < cur.length := List.length_pos_iff.2 hG.ne
    have hJ := joins_ev (cds l) (by omega) a r.f2 pre (cds t) (by rw [h, cds_app, ← hp, List.reverse_reverse]; rfl)
    refine Ev.succ ?_
    simp only [parquetryref06_Of.l1]
    refine Ev.ifp (by omega) (Ev.ifp (by omega) ?_)
    rw [show ((done.length + cur.length : Nat) : Int) = (pre.length : Int) + 1 by omega]
    refine Ev.bind hJ ?_
    unfold grps
    rw [show (pre.length : Int) + 1 = ((done.length + cur.length : Nat) : Int) by omega]
    by_cases hj : Jb (a :: pre) r.f2 = true
    · rw [if_pos hj, hj]
      refine Ev.succ ?_
      simp only [parquetryref06_Of.j2]
      refine Ev.ifp trivial ?_
      have := ih (cur ++ [r]) done r.f2 (a :: pre) out (by rw [h]; simp) (hG.more hj) (by rw [← hp]; simp [cds]) ho
      rw [w64 (by omega) (by omega), show ((done.length + cur.length : Nat) : Int) + 1 = ((done.length + (cur ++ [r]).length : Nat) : Int) by simp; omega]
      exact this
    · have hjf : Jb (a :: pre) r.f2 = false := by simpa using hj
      rw [if_neg hj, hjf]
      refine close (r :: t) cur done a out _ h hG ho ?_
      have := ih [r] (done ++ cur) r.f2 (a :: pre) (out ++ [mkC cur done.length]) (by rw [h]; simp) (Grp.one r) (by rw [← hp]; simp [cds]) (by simp; try omega)
      rw [List.length_append] at this
      refine Ev.val this ?_
      show _ = out ++ mkC cur done.length :: mks _ (done.length + cur.length)
      simp
theorem refOf_ev : Ev (fun k => parquetryref06_Of.f k l) (cls l) := by
  have l0 : ∀ (r pre : List Rn), l = pre ++ r → Ev (fun k => parquetryref06_Of.l0 k l (cds pre) (pre.length : Int)) (cls l) := by
    intro r
    induction r with
    | nil =>
      intro pre h
      have hpl : pre = l := by rw [h]; simp
      refine Ev.succ ?_
      simp only [parquetryref06_Of.l0]
      refine Ev.ifn (by rw [hpl]; omega) ?_
      rw [hpl]
      cases hll : l with
      | nil =>
        refine Ev.succ ?_
        simp only [parquetryref06_Of.l1]
        exact Ev.ifn (by decide) (Ev.now _)
      | cons x t =>
        have := of_l1 l hl t [x] [] x.f2 [] [] (by rw [hll]; rfl) (Grp.one x) rfl (by simp)
        rw [hll] at this
        exact this
    | cons x r ih =>
      intro pre h
      have hlen : l.length = pre.length + (r.length + 1) := by rw [h]; simp; try omega
      have hrd : rd_T37 l (pre.length : Int) = x := by rw [h]; exact rd_at37 pre x r
      have e1 : wrap64 ((pre.length : Int) + 1) = ((pre ++ [x]).length : Int) := by rw [w64 (by omega) (by omega)]; simp
      refine Ev.succ ?_
      simp only [parquetryref06_Of.l0]
      rw [hrd, e1]
      refine Ev.ifp (by omega) (Ev.ifp (by omega) (Ev.ifp (by simp [cds]; omega) ?_))
      rw [show cds pre ++ [x.f2] = cds (pre ++ [x]) by simp [cds]]
      exact ih (pre ++ [x]) (by rw [h]; simp)
  unfold parquetryref06_Of.f
  exact l0 l [] rfl
end
theorem same_l0 (xs : List Cl) (hl : xs.length < 1000000000) : ∀ (r pre : List Cl), xs = pre ++ r → Ev (fun k => parquetryref06_Same.l0 k xs xs (pre.length : Int)) true
  | [], pre, h => by
    refine Ev.succ ?_
    simp only [parquetryref06_Same.l0]
    exact Ev.ifn (by rw [h]; simp) (Ev.now _)
  | x :: r, pre, h => by
    have hlen : xs.length = pre.length + (r.length + 1) := by rw [h]; simp; try omega
    have e : wrap64 ((pre.length : Int) + 1) = ((pre ++ [x]).length : Int) := by rw [w64 (by omega) (by omega)]; simp
    refine Ev.succ ?_
    simp only [parquetryref06_Same.l0]
    rw [e]
    exact Ev.ifp (by omega) (Ev.ifp (by omega) (Ev.ifp (by omega) (Ev.ifn (by simp) (same_l0 xs hl r (pre ++ [x]) (by rw [h]; simp)))))
theorem same_ev (xs : List Cl) (hl : xs.length < 1000000000) : Ev (fun k => parquetryref06_Same.f k xs xs) true := by
  unfold parquetryref06_Same.f
  exact Ev.ifp rfl (same_l0 xs hl xs [] rfl)
theorem sameR_l0 (xs : List Rn) (hl : xs.length < 1000000000) : ∀ (r pre : List Rn), xs = pre ++ r → Ev (fun k => parquetryref01_Same.l0 k xs xs (pre.length : Int)) true
  | [], pre, h => by
    refine Ev.succ ?_
    simp only [parquetryref01_Same.l0]
    exact Ev.ifn (by rw [h]; simp) (Ev.now _)
  | x :: r, pre, h => by
    have hlen : xs.length = pre.length + (r.length + 1) := by rw [h]; simp; try omega
    have e : wrap64 ((pre.length : Int) + 1) = ((pre ++ [x]).length : Int) := by rw [w64 (by omega) (by omega)]; simp
    refine Ev.succ ?_
    simp only [parquetryref01_Same.l0]
    rw [e]
    exact Ev.ifp (by omega) (Ev.ifp (by omega) (Ev.ifp (by omega) (Ev.ifn (by simp) (sameR_l0 xs hl r (pre ++ [x]) (by rw [h]; simp)))))
theorem sameR_ev (xs : List Rn) (hl : xs.length < 1000000000) : Ev (fun k => parquetryref01_Same.f k xs xs) true := by
  unfold parquetryref01_Same.f
  exact Ev.ifp rfl (sameR_l0 xs hl xs [] rfl)
/-- How wide clusters are together. -/
def sumW (n : Int) : List Cl → Int
  | [] => n
  | x :: r => sumW (wrap64 (n + x.f4)) r
theorem wideAll_l0 (xs : List Cl) (hl : xs.length < 1000000000) : ∀ (r pre : List Cl) (n : Int), xs = pre ++ r → Ev (fun k => cluster_Wide.l0 k n xs (xs.length : Int) (pre.length : Int)) (sumW n r)
  | [], pre, n, h => by
    refine Ev.succ ?_
    simp only [cluster_Wide.l0]
    exact Ev.ifn (by rw [h]; simp) (Ev.now _)
  | x :: r, pre, n, h => by
    have hlen : xs.length = pre.length + (r.length + 1) := by rw [h]; simp; try omega
    have hrd : rd_T39 xs (pre.length : Int) = x := by rw [h]; exact rd_at39 pre x r
    have e : wrap64 ((pre.length : Int) + 1) = ((pre ++ [x]).length : Int) := by rw [w64 (by omega) (by omega)]; simp
    refine Ev.succ ?_
    simp only [cluster_Wide.l0]
    rw [e, hrd]
    exact Ev.ifp (by omega) (Ev.ifp (by omega) (Ev.ifp (by omega) (wideAll_l0 xs hl r (pre ++ [x]) _ (by rw [h]; simp))))
theorem wideAll_ev (xs : List Cl) (hl : xs.length < 1000000000) : Ev (fun k => cluster_Wide.f k xs) (sumW 0 xs) := by
  unfold cluster_Wide.f
  exact wideAll_l0 xs hl xs [] 0 rfl
theorem mks_len : ∀ (gs : List (List Rn)) (n : Nat), (mks gs n).length = gs.length
  | [], n => rfl
  | g :: gs, n => by
    show (mks gs _).length + 1 = _
    rw [mks_len gs, List.length_cons]
theorem grps_len : ∀ (t cur : List Rn) (pre : List Int), (grps t cur pre).length ≤ t.length + 1
  | [], cur, pre => Nat.le_refl _
  | r :: t, cur, pre => by
    have h1 := grps_len t (cur ++ [r]) (r.f2 :: pre)
    have h2 := grps_len t [r] (r.f2 :: pre)
    unfold grps
    split
    · simp only [List.length_cons]; omega
    · simp only [List.length_cons]; omega
theorem cls_len (l : List Rn) : (cls l).length ≤ l.length := by
  unfold cls
  rw [mks_len]
  cases l with
  | nil => exact Nat.le_refl _
  | cons r t => exact grps_len t [r] [r.f2]
end Go.Proofs.Ytgbkfjdkejjmpaa.PC06
