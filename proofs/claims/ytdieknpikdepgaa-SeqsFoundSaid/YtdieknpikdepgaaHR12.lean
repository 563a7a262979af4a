/- The document's sequences of classes, told by places. Conditions: fewer than 900 classes, a paragraph of the level 0 or 1. -/
import Derived.Test.YtdieknpikdepgaaPC12x13
import Derived.Test.YtdieknpikdepgaaHX12
import Derived.Test.YtdieknpikdepgaaHY12
namespace Go.Proofs.Ytdieknpikdepgaa.PC12
open Go.RowKit Go.Proofs.YtdieknpikdepgaaW.PrintWords Go.Proofs.YtdieknpikdepgaaW.PrintLast Go.Proofs.YtdieknpikdepgaaW.PrintMore Go.Proofs.YtdieknpikdepgaaH
set_option linter.unusedVariables false
set_option linter.unusedSimpArgs false

/-- A place, or -1. -/
def oI : Option Nat → Int
  | none => -1
  | some q => (q : Int)
section
variable {V : Nat → Int} {n : Nat}
def eV (V : Nat → Int) (n : Nat) : List Int := (List.range n).map V
theorem eV_len (V : Nat → Int) (n : Nat) : (eV V n).length = n := by simp [eV]
theorem eV_at (V : Nat → Int) (n i : Nat) (h : i < n) : rd (eV V n) (i : Int) = V i := rd_map n V i h
theorem near_dn (hn : n < 100000) : ∀ p, p ≤ n → Ev (fun k => parquetryref12_Near.l0 k (eV V n) (-1) ((p : Int) - 1)) (oI (prv V p)) := by
  have he := eV_len V n
  intro p
  induction p with
  | zero =>
    intro _
    refine Ev.succ ?_
    simp only [parquetryref12_Near.l0]
    refine Ev.ifn (by omega) (Ev.succ ?_)
    simp only [parquetryref12_Near.j1]
    exact Ev.ifn (by decide) (Ev.now _)
  | succ p ih =>
    intro hp
    have e1 : ((p + 1 : Nat) : Int) - 1 = (p : Int) := by omega
    rw [e1]
    refine Ev.succ ?_
    simp only [parquetryref12_Near.l0]
    refine Ev.ifp (by omega) ?_
    rw [decide_eq_true (show (p : Int) < ((eV V n).length : Int) by omega)]
    refine Ev.succ ?_
    simp only [parquetryref12_Near.j1]
    refine Ev.ifp trivial (Ev.ifp (by omega) (Ev.ifp (by omega) ?_))
    rw [eV_at V n p (by omega)]
    unfold prv
    by_cases h : 0 ≤ V p
    · rw [if_pos h]
      exact Ev.ifp h (Ev.now _)
    · rw [if_neg h]
      refine Ev.ifn h ?_
      rw [show wrap64 ((p : Int) + -1) = (p : Int) - 1 by rw [w64 (by omega) (by omega)]; omega]
      exact ih (by omega)
theorem near_up (hn : n < 100000) : ∀ m c, c + m = n → Ev (fun k => parquetryref12_Near.l0 k (eV V n) 1 (c : Int)) (oI (nup V m c)) := by
  have he := eV_len V n
  intro m
  induction m with
  | zero =>
    intro c hc
    refine Ev.succ ?_
    simp only [parquetryref12_Near.l0]
    refine Ev.ifp (by omega) ?_
    rw [decide_eq_false (show ¬ (c : Int) < ((eV V n).length : Int) by omega)]
    refine Ev.succ ?_
    simp only [parquetryref12_Near.j1]
    exact Ev.ifn (by decide) (Ev.now _)
  | succ m ih =>
    intro c hc
    refine Ev.succ ?_
    simp only [parquetryref12_Near.l0]
    refine Ev.ifp (by omega) ?_
    rw [decide_eq_true (show (c : Int) < ((eV V n).length : Int) by omega)]
    refine Ev.succ ?_
    simp only [parquetryref12_Near.j1]
    refine Ev.ifp trivial (Ev.ifp (by omega) (Ev.ifp (by omega) ?_))
    rw [eV_at V n c (by omega)]
    unfold nup
    by_cases h : 0 ≤ V c
    · rw [if_pos h]
      exact Ev.ifp h (Ev.now _)
    · rw [if_neg h]
      refine Ev.ifn h ?_
      rw [show wrap64 ((c : Int) + 1) = ((c + 1 : Nat) : Int) by rw [w64 (by omega) (by omega)]; omega]
      exact ih (c + 1) (by omega)
theorem dn_ev (hn : n < 100000) (p : Nat) (hp : p ≤ n) : Ev (fun k => parquetryref12_Near.f k (eV V n) (wrap64 ((p : Int) - 1)) (-1)) (oI (prv V p)) := by
  unfold parquetryref12_Near.f
  rw [w64 (by omega) (by omega)]
  exact near_dn hn p hp
theorem up_ev (hn : n < 100000) (p : Nat) (hp : p < n) : Ev (fun k => parquetryref12_Near.f k (eV V n) (wrap64 ((p : Int) + 1)) 1) (oI (nx V n (p + 1))) := by
  unfold parquetryref12_Near.f nx
  rw [show wrap64 ((p : Int) + 1) = ((p + 1 : Nat) : Int) by rw [w64 (by omega) (by omega)]; omega]
  exact near_up hn _ _ (by omega)
theorem at_eq (q : Option Nat) (a1 : Int) (hq : ∀ x, q = some x → x < n) : parquetryref12_at.f (eV V n) (oI q) a1 = some (lev0 V a1 q) := by
  have he := eV_len V n
  unfold parquetryref12_at.f
  cases q with
  | none => exact if_pos (by decide)
  | some x =>
    have hx := hq x rfl
    show (if (x : Int) < 0 then _ else if 0 ≤ (x : Int) then (if (x : Int) < _ then some (rd (eV V n) (x : Int)) else none) else none) = some (V x)
    rw [if_neg (by omega), if_pos (by omega), if_pos (by omega), eV_at V n x hx]
theorem begins_ev (hn : n < 100000) (p : Nat) (hp : p < n) : Ev (fun k => parquetryref12_Begins.f k (eV V n) (p : Int)) (bgn V p) := by
  have he := eV_len V n
  unfold parquetryref12_Begins.f
  refine Ev.bind (dn_ev hn p (by omega)) ?_
  unfold bgn
  cases hq : prv V p with
  | none => exact Ev.ifp (by decide) (Ev.now _)
  | some q =>
    have h1 := prv_some.1 hq
    show Ev (fun _ => if (q : Int) < 0 then some true else if 0 ≤ (q : Int) then (if (q : Int) < _ then _ else none) else none) _
    refine Ev.ifn (by omega) (Ev.ifp (by omega) (Ev.ifp (by omega) (Ev.ifp (by omega) (Ev.ifp (by omega) ?_))))
    rw [show oI (some q) = (q : Int) from rfl, eV_at V n q (by omega), eV_at V n p hp]
    have : (V q != V p) = decide (V q ≠ V p) := by rw [Bool.eq_iff_iff]; simp
    rw [this]
    exact Ev.now _
end
theorem way2_eq (a b : Int) (ha : 0 ≤ a) (hb : 0 ≤ b) (ha' : a < 1000) (hb' : b < 1000) : parquetryref12_Way.f a b = some (wy a b) := by
  unfold parquetryref12_Way.f wy
  have hm : 0 ≤ mx a b ∧ mx a b < 1000 := by unfold mx; split <;> omega
  generalize mx a b = m at hm
  have key : ∀ j : Fin 1000, (Int.tmod (j.val : Int) 2 = 1) ↔ (Go.bits .and .i64 (j.val : Int) 1 = 1) := by decide +kernel
  obtain ⟨j, rfl⟩ := Int.eq_ofNat_of_zero_le hm.1
  have := key ⟨j, by omega⟩
  dsimp only at this
  by_cases h : Int.tmod (j : Int) 2 = 1
  · rw [if_pos h, if_pos (this.1 h)]
  · rw [if_neg h, if_neg (fun e => h (this.2 e))]
theorem nxt_ev {V : Nat → Int} {l : List Int} (H : Lv V l) (hn : l.length < 100000) (q : Nat) (hq : q < l.length) : Ev (fun k => parquetryref12_Next.f k l (eV V l.length) (q : Int)) (oI (nxt V l q)) := by
  have he := eV_len V l.length
  have hj : lst V l.length q = true → ∀ t : Int, Ev (fun k => parquetryref12_Next.j0 k l (eV V l.length) (q : Int) t false) (oI (nxt V l q)) := by
    intro hl t
    refine Ev.succ ?_
    simp only [parquetryref12_Next.j0]
    refine Ev.ifn (by decide) (Ev.ifp (by omega) (Ev.ifp (by omega) (Ev.bindc (initiator_eq _) ?_)))
    rw [show rd l (q : Int) = at' l q from rfl]
    by_cases hi : ini (at' l q) = true
    · refine Ev.ifp hi (Ev.bind (end_ev l (by omega) q hq) ?_)
      by_cases hz : endOf l q = l.length
      · have hx : nxt V l q = none := by
          unfold nxt
          rw [if_pos hl, if_neg (fun h => by omega)]
        rw [hx]
        exact Ev.ifp (by omega) (Ev.now _)
      · have hlt : endOf l q < l.length := by have := endOf_le l q; omega
        refine Ev.ifn (by omega) (Ev.bind (begins_ev hn _ hlt) ?_)
        by_cases hb : bgn V (endOf l q) = true
        · have hx : nxt V l q = some (endOf l q) := by
            unfold nxt
            rw [if_pos hl, if_pos ⟨hi, hlt, hb⟩]
          rw [hx]
          exact Ev.ifp hb (Ev.now _)
        · have hx : nxt V l q = none := by
            unfold nxt
            rw [if_pos hl, if_neg (fun h => hb h.2.2)]
          rw [hx]
          exact Ev.ifn hb (Ev.now _)
    · have hx : nxt V l q = none := by
        unfold nxt
        rw [if_pos hl, if_neg (fun h => hi h.1)]
      rw [hx]
      exact Ev.ifn hi (Ev.now _)
  unfold parquetryref12_Next.f
  refine Ev.bind (up_ev hn q hq) ?_
  cases hx : nx V l.length (q + 1) with
  | none =>
    refine Ev.ifn (by decide) (hj ?_ _)
    unfold lst
    rw [hx]
  | some t =>
    have h1 := nx_some.1 hx
    show Ev (fun k => if (t : Int) ≥ 0 then (if 0 ≤ (t : Int) then (if (t : Int) < _ then _ else none) else none) else _) _
    refine Ev.ifp (by omega) (Ev.ifp (by omega) (Ev.ifp (by omega) (Ev.ifp (by omega) (Ev.ifp (by omega) ?_))))
    rw [show oI (some t) = (t : Int) from rfl, eV_at V _ t h1.2.1, eV_at V _ q hq]
    by_cases hv : V t = V q
    · have hl : lst V l.length q = false := lst_false.2 ⟨t, hx, hv⟩
      rw [beq_iff_eq.2 hv]
      refine Ev.succ ?_
      simp only [parquetryref12_Next.j0]
      unfold nxt
      rw [hl, if_neg (by decide), hx]
      exact Ev.ifp trivial (Ev.now _)
    · rw [beq_eq_false_iff_ne.2 hv]
      refine hj ?_ _
      unfold lst
      rw [hx]
      simpa using hv
theorem first_l0 {V : Nat → Int} {l : List Int} (H : Lv V l) (hn : l.length < 100000) (i : Nat) (hi : i < l.length) (h0 : 0 ≤ V i) : ∀ m x, x + m = i → (∀ y, y < x → 0 ≤ V y → pred V l i ≠ some y) → Ev (fun k => parquetryref12_First.l0 k l (eV V l.length) (i : Int) (x : Int)) (pred V l i).isNone := by
  have he := eV_len V l.length
  intro m
  induction m with
  | zero =>
    intro x hx hy
    obtain rfl : x = i := by omega
    refine Ev.succ ?_
    simp only [parquetryref12_First.l0]
    refine Ev.ifn (by omega) ?_
    cases hp : pred V l x with
    | none => exact Ev.now _
    | some y =>
      obtain ⟨h1, h2, _⟩ := pred_lt H hi hp
      exact absurd hp (hy y h1 h2)
  | succ m ih =>
    intro x hx hy
    have hw : wrap64 ((x : Int) + 1) = ((x + 1 : Nat) : Int) := by rw [w64 (by omega) (by omega)]; omega
    refine Ev.succ ?_
    simp only [parquetryref12_First.l0]
    refine Ev.ifp (by omega) (Ev.ifp (by omega) (Ev.ifp (by omega) ?_))
    rw [eV_at V _ x (by omega), hw]
    by_cases hv : 0 ≤ V x
    · refine Ev.ifp hv (Ev.bind (nxt_ev H hn x (by omega)) ?_)
      have hiff := nxt_iff H (p := i) (show x < l.length by omega) hv
      by_cases hx2 : nxt V l x = some i
      · rw [hx2, (hiff.1 hx2).2.2]
        exact Ev.ifp rfl (Ev.now _)
      · refine Ev.ifn (fun e => hx2 ?_) (ih (x + 1) (by omega) (fun y h1 h2 e => ?_))
        · cases hz : nxt V l x with
          | none => rw [hz] at e; have e : (-1 : Int) = (i : Int) := e; omega
          | some z => rw [hz] at e; have e : (z : Int) = (i : Int) := e; congr 1; omega
        · by_cases hyx : y = x
          · subst hyx
            exact hx2 (hiff.2 ⟨hi, h0, e⟩)
          · exact hy y (by omega) h2 e
    · exact Ev.ifn hv (ih (x + 1) (by omega) (fun y h1 h2 => by
        by_cases hyx : y = x
        · subst hyx; exact absurd h2 hv
        · exact hy y (by omega) h2))
theorem chn_succ {V : Nat → Int} {l : List Int} {p : Nat} (i : Nat) (h0 : 0 ≤ V p) : chn V l (p + 1) i = chn V l p i ++ if root V l p = i then [p] else [] := by
  unfold chn
  rw [KL_succ V (Nat.zero_le p), if_pos h0, List.filter_append]
  congr 1
  by_cases h : root V l p = i
  · rw [if_pos h, List.filter_cons, if_pos (by rw [h]; exact beq_self_eq_true i)]
    rfl
  · rw [if_neg h, List.filter_cons, if_neg (by simpa using h)]
    rfl
theorem chn_gap {V : Nat → Int} {l : List Int} {p q i : Nat} (hpq : p ≤ q) (h : ∀ x, p ≤ x → x < q → 0 ≤ V x → root V l x ≠ i) : chn V l q i = chn V l p i := by
  unfold chn
  rw [KL_split V (Nat.zero_le p) hpq, List.filter_append]
  have : (KL V p q).filter (fun x => root V l x == i) = [] := by
    rw [List.filter_eq_nil_iff]
    intro x hx
    obtain ⟨h1, h2, h3⟩ := mem_KL.1 hx
    simpa using h x h1 h2 h3
  rw [this, List.append_nil]
theorem Fc_succ {V : Nat → Int} {l : List Int} {i : Nat} : Fc V l (i + 1) = Fc V l i ++ if 0 ≤ V i ∧ pred V l i = none then [i] else [] := by
  unfold Fc
  rw [KL_succ V (Nat.zero_le i)]
  by_cases h0 : 0 ≤ V i
  · rw [if_pos h0, List.filter_append]
    congr 1
    cases hp : pred V l i with
    | none => rw [if_pos ⟨h0, rfl⟩, List.filter_cons, if_pos (by rw [hp]; rfl)]; rfl
    | some q => rw [if_neg (fun h => by cases h.2), List.filter_cons, if_neg (by rw [hp]; simp)]; rfl
  · rw [if_neg h0, if_neg (fun h => h0 h.1), List.append_nil]
theorem ch_ev {V : Nat → Int} {l : List Int} (H : Lv V l) (hn : l.length < 100000) (i : Nat) : ∀ m p last, l.length - p ≤ m → p < l.length → 0 ≤ V p → root V l p = i → ∃ t : Nat, (chn V l l.length i).getLast? = some t ∧ t < l.length ∧ nxt V l t = none ∧ Ev (fun k => parquetryref12_Sequences.ch k l (eV V l.length) (p : Int) last (nums (chn V l p i))) (nums (chn V l l.length i), (t : Int)) := by
  intro m
  induction m with
  | zero => intro p last hm hp; omega
  | succ m ih =>
    intro p last hm hp h0 hr
    have hcl := chn_len V l p i
    have hnl : (nums (chn V l p i)).length < 1000000 := by unfold nums; rw [List.length_map]; omega
    have hsucc := chn_succ (V := V) (l := l) i h0
    rw [if_pos hr] at hsucc
    have hnn : nums (chn V l p i) ++ [(p : Int)] = nums (chn V l (p + 1) i) := by rw [hsucc]; unfold nums; rw [List.map_append]; rfl
    cases hx : nxt V l p with
    | none =>
      have hg : chn V l l.length i = chn V l (p + 1) i := chn_gap (by omega) fun x h1 h2 h3 h4 => by
        obtain ⟨y, e1, _⟩ := chain H x p x (Nat.le_refl _) h2 h0 h3 (by rw [hr, h4]) (by omega)
        rw [hx] at e1
        cases e1
      refine ⟨p, ?_, hp, hx, ?_⟩
      · rw [hg, hsucc, List.getLast?_append]; rfl
      · refine Ev.succ ?_
        simp only [parquetryref12_Sequences.ch]
        refine Ev.ifp (by omega) (Ev.ifp hnl (Ev.bind (nxt_ev H hn p hp) ?_))
        rw [hx, hnn, hg]
        refine Ev.succ ?_
        simp only [parquetryref12_Sequences.ch]
        exact Ev.ifn (by decide) (Ev.now _)
    | some q =>
      obtain ⟨h1, h2, h3⟩ := (nxt_iff H hp h0).1 hx
      have h4 := (pred_lt H h1 h3).1
      have hg : chn V l q i = chn V l (p + 1) i := chn_gap (by omega) fun x g1 g2 g3 g4 => by
        obtain ⟨y, e1, e2, _⟩ := chain H x p x (Nat.le_refl _) (by omega) h0 g3 (by rw [hr, g4]) (by omega)
        rw [hx] at e1
        obtain rfl := Option.some.inj e1
        omega
      obtain ⟨t, e1, e2, e3, e4⟩ := ih q (p : Int) (by omega) h1 h2 (by rw [root_some h3 h4, hr])
      refine ⟨t, e1, e2, e3, ?_⟩
      refine Ev.succ ?_
      simp only [parquetryref12_Sequences.ch]
      refine Ev.ifp (by omega) (Ev.ifp hnl (Ev.bind (nxt_ev H hn p hp) ?_))
      rw [hx, hnn, ← hg]
      exact e4
theorem bh_ev {V : Nat → Int} {l : List Int} (hn : l.length < 100000) (para : Int) (t : Nat) (ht : t < l.length) : Ev (fun k => parquetryref12_Sequences.bh k l para (t : Int) (lev0 V para (nx V l.length (t + 1)))) (bh V l para t) := by
  unfold parquetryref12_Sequences.bh
  refine Ev.ifp ⟨by omega, by omega⟩ (Ev.bindc (initiator_eq _) ?_)
  rw [show rd l (t : Int) = at' l t from rfl]
  by_cases hi : ini (at' l t) = true
  · refine Ev.ifp hi (Ev.bind (end_ev l (by omega) t ht) ?_)
    by_cases hz : endOf l t = l.length
    · have hx : bh V l para t = para := by unfold bh; rw [if_pos ⟨hi, hz⟩]
      rw [hx, if_pos (show ((endOf l t : Nat) : Int) = (l.length : Int) by omega)]
      exact Ev.now _
    · have hx : bh V l para t = lev0 V para (nx V l.length (t + 1)) := by unfold bh; rw [if_neg (fun h => hz h.2)]
      rw [hx, if_neg (show ¬ ((endOf l t : Nat) : Int) = (l.length : Int) by omega)]
      exact Ev.now _
  · have hx : bh V l para t = lev0 V para (nx V l.length (t + 1)) := by unfold bh; rw [if_neg (fun h => hi h.1)]
    rw [hx]
    exact Ev.ifn hi (Ev.now _)
theorem slp_ev {V : Nat → Int} {l : List Int} (H : Lv V l) (hn : l.length < 100000) (para : Int) (hp0 : 0 ≤ para) (hp1 : para < 1000) (hV : ∀ x, x < l.length → V x < 1000) : ∀ m i, i + m = l.length → Ev (fun k => parquetryref12_Sequences.lp k l para (eV V l.length) (i : Int) ((Fc V l i).map (ent V l para l.length))) ((Fc V l l.length).map (ent V l para l.length)) := by
  have he := eV_len V l.length
  intro m
  induction m with
  | zero =>
    intro i hi
    obtain rfl : i = l.length := by omega
    refine Ev.succ ?_
    simp only [parquetryref12_Sequences.lp]
    exact Ev.ifn (by omega) (Ev.now _)
  | succ m ih =>
    intro i hi
    have hil : i < l.length := by omega
    have hFl := Fc_len V l i
    have hcast : (i : Int) + 1 = ((i + 1 : Nat) : Int) := by omega
    have hs := ih (i + 1) (by omega)
    rw [Fc_succ] at hs
    have hlev : ∀ q, (∀ x, q = some x → x < l.length ∧ 0 ≤ V x) → 0 ≤ lev0 V para q ∧ lev0 V para q < 1000 := fun q hq => by
      cases q with
      | none => exact ⟨hp0, hp1⟩
      | some x => exact ⟨(hq x rfl).2, hV x (hq x rfl).1⟩
    refine Ev.succ ?_
    simp only [parquetryref12_Sequences.lp]
    rw [hcast]
    refine Ev.ifp (by omega) (Ev.ifp ⟨by omega, by omega, by rw [List.length_map]; omega, he⟩ ?_)
    rw [eV_at V _ i hil]
    by_cases h0 : 0 ≤ V i
    · refine Ev.ifn (by omega) (Ev.bind (first_l0 H hn i hil h0 i 0 (by omega) (fun y hy => by omega)) ?_)
      cases hp : pred V l i with
      | some q =>
        rw [if_neg (fun h => by rw [hp] at h; cases h.2), List.append_nil] at hs
        exact Ev.ifn (by simp) hs
      | none =>
        rw [if_pos ⟨h0, hp⟩, List.map_append] at hs
        obtain ⟨t, e1, e2, e3, e4⟩ := ch_ev H hn i _ i (i : Int) (Nat.le_refl _) hil h0 (root_none hp)
        have hz : chn V l i i = [] := by
          unfold chn
          rw [List.filter_eq_nil_iff]
          intro x hx
          have h1 := mem_KL.1 hx
          have h2 := root_le V l x x (Nat.le_refl _)
          simp only [beq_iff_eq]
          omega
        rw [hz] at e4
        have hprv : ∀ x, prv V i = some x → x < l.length ∧ 0 ≤ V x := fun x hx => by have := prv_some.1 hx; exact ⟨by omega, this.2.1⟩
        have hnx : ∀ x, nx V l.length (t + 1) = some x → x < l.length ∧ 0 ≤ V x := fun x hx => by have := nx_some.1 hx; exact ⟨this.2.1, this.2.2.1⟩
        have hbh : 0 ≤ bh V l para t ∧ bh V l para t < 1000 := by
          unfold bh
          split
          · exact ⟨hp0, hp1⟩
          · exact hlev _ hnx
        have hl1 := hlev _ hprv
        have heos : eos V l para l.length i = wy (V i) (bh V l para t) := by
          unfold eos
          rw [e1]
          dsimp only
          rw [if_neg (by rw [e3]; decide)]
        have hent : ent V l para l.length i = ⟨V i, wy (V i) (lev0 V para (prv V i)), wy (V i) (bh V l para t), nums (chn V l l.length i)⟩ := by
          unfold ent
          rw [heos]
        rw [List.map_cons, List.map_nil, hent] at hs
        refine Ev.ifp rfl (Ev.bind (dn_ev hn i (by omega)) (Ev.bindc (at_eq _ para (fun x hx => (hprv x hx).1)) (Ev.bindc (way2_eq _ _ h0 hl1.1 (hV i hil) hl1.2) (Ev.bind e4 (Ev.bind (up_ev hn t e2) (Ev.bindc (at_eq _ para (fun x hx => (hnx x hx).1)) (Ev.bind (bh_ev hn para t e2) (Ev.bindc (way2_eq _ _ h0 hbh.1 (hV i hil) hbh.2) hs))))))))
    · rw [if_neg (fun h => h0 h.1), List.append_nil] at hs
      exact Ev.ifp (by omega) hs
theorem refSeqs_ev (l : List Int) (hl : l.length < 900) (b : Int) (hb : b = 0 ∨ b = 1) : Ev (fun k => parquetryref12_Sequences.f k l b) (sqs l b) := by
  unfold parquetryref12_Sequences.f
  refine Ev.bind (refExplicit_ev l hl b hb) (Ev.ifp (by simp; omega) ?_)
  have hV : ∀ x, x < l.length → lv l b x < 1000 := fun x hx => by
    cases hg : gone (at' l x) with
    | true => unfold lv; rw [if_pos hg]; decide
    | false => have := (lv_made l b (by omega) x (by rw [hg]; decide)).2; omega
  exact slp_ev (lv_Lv l b hb) (by omega) b (by omega) (by omega) hV l.length 0 (by omega)
end Go.Proofs.Ytdieknpikdepgaa.PC12
