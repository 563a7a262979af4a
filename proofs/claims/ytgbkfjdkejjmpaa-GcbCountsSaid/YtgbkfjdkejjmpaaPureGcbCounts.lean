/- GcbCounts: runs are of one code point at least, and together of all; within a run all are of one kind, at its end another one begins (the pure statement over the printed Lean functions). Conditions: those of the statement. -/
import Derived.Test.YtgbkfjdkejjmpaaPC05x6
import Derived.Test.YtgbkfjdkejjmpaaHP05
namespace Go.Proofs.Ytgbkfjdkejjmpaa.Pure
open Go.RowKit Go.Proofs.Ytgbkfjdkejjmpaa.PC05 Go.Proofs.YtgbkfjdkejjmpaaW.PrintWords Go.Proofs.YtgbkfjdkejjmpaaW.PrintLast Go.Proofs.YtgbkfjdkejjmpaaH
set_option linter.unusedVariables false

/-- Runs of code points, behind one of a kind. -/
def Good (prev : Option Int) (codes : List Int) : List Int → Prop
  | [] => codes = []
  | n :: ns => ∃ (c : Int) (b rest : List Int), codes = c :: b ++ rest ∧ n = (b.length : Int) + 1 ∧ (∀ x ∈ b, gk x = gk c) ∧ prev ≠ some (gk c) ∧ Good (some (gk c)) rest ns
theorem good_go : ∀ (r b : List Int) (prev : Option Int) (c0 n c : Int), n = (b.length : Int) + 1 → (∀ x ∈ b, gk x = gk c0) → gk c = gk c0 → prev ≠ some (gk c0) → Good prev (c0 :: b ++ r) (go r [] n c)
  | [], b, prev, c0, n, c, h1, h2, h3, h4 => ⟨c0, b, [], rfl, h1, h2, h4, rfl⟩
  | d :: r, b, prev, c0, n, c, h1, h2, h3, h4 => by
    unfold go
    by_cases hk : gk c = gk d
    · rw [if_pos hk]
      have := good_go r (b ++ [d]) prev c0 (n + 1) d (by simp; omega) (fun x hx => by
        rcases List.mem_append.1 hx with hx | hx
        · exact h2 x hx
        · rw [List.mem_singleton.1 hx, ← hk, h3]) (by rw [← hk, h3]) h4
      simpa using this
    · rw [if_neg hk, go_fin]
      exact ⟨c0, b, d :: r, rfl, h1, h2, h4, good_go r [] (some (gk c0)) d 1 d (by simp) (by simp) rfl (fun e => hk (by rw [h3]; exact Option.some.inj e))⟩
theorem good_runs (l : List Int) : Good none l (runsV l) := by
  cases l with
  | nil => exact rfl
  | cons c r => exact good_go r [] none c 1 c (by simp) (by simp) rfl (by simp)
theorem count_l1 (l m : List Int) (hl : l.length ≤ 100) (hm : m.length ≤ 100) (hr : ∀ x ∈ l, rng x) (done rest : List Int) (c : Int) (b : List Int) (hle : l = done ++ (c :: b ++ rest)) (j : Nat) (hj : j < m.length) (hn : rd m (j : Int) = (b.length : Int) + 1) (hb : ∀ x ∈ b, gk x = gk c)
    (hnext : Ev (fun k => parquetrylaw05_GcbCounts.l0 k l m ((done.length + b.length + 1 : Nat) : Int) ((j + 1 : Nat) : Int)) true) :
    ∀ (q : Nat), q ≤ b.length → Ev (fun k => parquetrylaw05_GcbCounts.l1 k l m (done.length : Int) (j : Int) (((b.length - q : Nat) : Int) + 1)) true
  | 0, hq => by
    have hlen : l.length = done.length + (b.length + 1 + rest.length) := by rw [hle]; simp; omega
    refine Ev.succ ?_
    simp only [parquetrylaw05_GcbCounts.l1]
    rw [hn]
    refine Ev.ifp (by omega) (Ev.ifp (by omega) (Ev.ifn (by omega) ?_))
    rw [w64 (x := (done.length : Int) + ((b.length : Int) + 1)) (by omega) (by omega), w64 (x := (j : Int) + 1) (by omega) (by omega)]
    rw [show (done.length : Int) + ((b.length : Int) + 1) = ((done.length + b.length + 1 : Nat) : Int) from by omega, show (j : Int) + 1 = ((j + 1 : Nat) : Int) from by omega]
    exact hnext
  | q + 1, hq => by
    have hlen : l.length = done.length + (b.length + 1 + rest.length) := by rw [hle]; simp; omega
    have ih := count_l1 l m hl hm hr done rest c b hle j hj hn hb hnext q (by omega)
    have e1 : rd l (done.length : Int) = c := by rw [hle]; exact rd_mid done c _
    obtain ⟨t, ht⟩ : ∃ t, t = b.length - (q + 1) := ⟨_, rfl⟩
    have htb : t < b.length := by omega
    have e2 : rd l ((done.length : Int) + ((t : Int) + 1)) = b[t] := by
      have := rd_mid (done ++ (c :: b.take t)) b[t] (b.drop (t + 1) ++ rest)
      have e3 : done ++ (c :: b.take t) ++ b[t] :: (b.drop (t + 1) ++ rest) = l := by
        rw [hle, List.append_assoc]
        congr 1
        rw [List.cons_append, List.cons_append]
        congr 1
        have h4 : b = b.take t ++ b[t] :: b.drop (t + 1) := by
          rw [← List.drop_eq_getElem_cons htb, List.take_append_drop]
        exact (by rw [List.append_assoc, List.cons_append] : List.take t b ++ b[t] :: (List.drop (t + 1) b ++ rest) = (b.take t ++ b[t] :: b.drop (t + 1)) ++ rest).trans (congrArg (· ++ rest) h4.symm)
      rw [e3] at this
      rw [← this]
      congr 1
      simp
      omega
    have hbt : gk b[t] = gk c := hb _ (List.getElem_mem _)
    have rc : rng c := hr c (by rw [hle]; simp)
    have rb : rng b[t] := hr _ (by rw [hle]; simp)
    refine Ev.succ ?_
    simp only [parquetrylaw05_GcbCounts.l1]
    rw [← ht, hn, w64 (x := (done.length : Int) + ((t : Int) + 1)) (by omega) (by omega), e1, e2, w64 (x := (t : Int) + 1 + 1) (by omega) (by omega)]
    refine Ev.ifp (by omega) (Ev.ifp (by omega) (Ev.ifp (by omega) (Ev.ifp (by omega) (Ev.ifp (by omega) (Ev.bindc (of_eq _ rb) (Ev.ifp (by omega) (Ev.ifp (by omega) (Ev.bindc (of_eq _ rc) (Ev.ifp hbt ?_)))))))))
    rw [show (t : Int) + 1 + 1 = ((b.length - q : Nat) : Int) + 1 from by omega]
    exact ih
theorem count_l0 (l m : List Int) (hl : l.length ≤ 100) (hm : m.length ≤ 100) (hr : ∀ x ∈ l, rng x) : ∀ (ns ms done codes : List Int) (prev : Option Int), m = ms ++ ns → l = done ++ codes → Good prev codes ns → (ms ≠ [] → done ≠ [] ∧ prev = some (gk (rd l ((done.length : Int) - 1)))) → Ev (fun k => parquetrylaw05_GcbCounts.l0 k l m (done.length : Int) (ms.length : Int)) true
  | [], ms, done, codes, prev, h1, h2, h3, h4 => by
    have h3 : codes = [] := h3
    refine Ev.succ ?_
    simp only [parquetrylaw05_GcbCounts.l0]
    refine Ev.ifn (by rw [h1]; simp) (Ev.ifp (by rw [h2, h3]; simp) (Ev.bind awake_ev (Ev.now _)))
  | n :: ns, ms, done, codes, prev, h1, h2, h3, h4 => by
    obtain ⟨c, b, rest, rfl, hn, hb, hp, hg⟩ := h3
    have hlen : l.length = done.length + (b.length + 1 + rest.length) := by rw [h2]; simp; omega
    have hml : m.length = ms.length + (ns.length + 1) := by rw [h1]; simp
    have hrd : rd m (ms.length : Int) = n := by rw [h1]; exact rd_mid ms n ns
    have e1 : rd l (done.length : Int) = c := by rw [h2]; exact rd_mid done c _
    have rc : rng c := hr c (by rw [h2]; simp)
    have hlast : gk (rd l (((done.length + b.length + 1 : Nat) : Int) - 1)) = gk c := by
      rcases List.eq_nil_or_concat b with rfl | ⟨b', x, rfl⟩
      · rw [show (((done.length + ([] : List Int).length + 1 : Nat) : Int) - 1) = (done.length : Int) from by simp, e1]
      · have := rd_mid (done ++ (c :: b')) x rest
        rw [show done ++ (c :: b') ++ x :: rest = l from by rw [h2]; simp] at this
        rw [show (((done.length + (b'.concat x).length + 1 : Nat) : Int) - 1) = ((done ++ (c :: b')).length : Int) from (by simp), this]
        exact hb x (by simp)
    have hnext := count_l0 l m hl hm hr ns (ms ++ [n]) (done ++ (c :: b)) rest (some (gk c)) (by rw [h1]; simp) (by rw [h2]; simp) hg (fun _ => ⟨by simp, by
      rw [show (((done ++ (c :: b)).length : Int) - 1) = (((done.length + b.length + 1 : Nat) : Int) - 1) from by simp; omega, hlast]⟩)
    have hl1 := count_l1 l m hl hm hr done rest c b h2 ms.length (by omega) (by rw [hrd, hn]) hb (by
      rw [show ((done.length + b.length + 1 : Nat) : Int) = ((done ++ (c :: b)).length : Int) from by simp; omega, show ((ms.length + 1 : Nat) : Int) = ((ms ++ [n]).length : Int) from by simp]
      exact hnext) b.length (Nat.le_refl _)
    rw [Nat.sub_self, show ((0 : Nat) : Int) + 1 = 1 from rfl] at hl1
    have hj : Ev (fun k => parquetrylaw05_GcbCounts.j1 k l m (done.length : Int) (ms.length : Int) false) true := by
      refine Ev.succ ?_
      simp only [parquetrylaw05_GcbCounts.j1]
      exact Ev.ifn (by decide) hl1
    refine Ev.succ ?_
    simp only [parquetrylaw05_GcbCounts.l0]
    rw [hrd, w64 (x := (l.length : Int) - (done.length : Int)) (by omega) (by omega)]
    refine Ev.ifp (by omega) (Ev.ifp (by omega) (Ev.ifn (by omega) (Ev.ifn (by omega) ?_)))
    by_cases hms : ms = []
    · subst hms
      exact Ev.ifn (by simp) hj
    · obtain ⟨g1, g2⟩ := h4 hms
      have hd0 : 0 < done.length := List.length_pos_iff.2 g1
      have hm0 : 0 < ms.length := List.length_pos_iff.2 hms
      rw [w64 (x := (done.length : Int) - 1) (by omega) (by omega), e1]
      have rp : rng (rd l ((done.length : Int) - 1)) := by
        have h5 : ((done.length : Int) - 1).toNat < l.length := by omega
        unfold rd
        rw [List.getD_eq_getElem?_getD, List.getElem?_eq_getElem h5]
        exact hr _ (List.getElem_mem _)
      refine Ev.ifp (by omega) (Ev.ifp (by omega) (Ev.ifp (by omega) (Ev.bindc (of_eq _ rp) (Ev.ifp (by omega) (Ev.ifp (by omega) (Ev.bindc (of_eq _ rc) ?_))))))
      rw [show (gk (rd l ((done.length : Int) - 1)) == gk c) = false from beq_eq_false_iff_ne.2 (fun e => hp (by rw [g2, e]))]
      exact hj
theorem GcbCounts : parquetrylaw05_GcbCounts.Pure := by
  intro l h1 h2 h3
  refine Ev.ex ?_
  unfold parquetrylaw05_GcbCounts.f
  by_cases hl : (l.length : Int) > 100
  · exact Ev.ifp hl (Ev.bind awake_ev (Ev.now _))
  · have hr : ∀ x ∈ l, rng x := fun x hx => wf_i64 (h3 x hx)
    have hlen : (runsV l).length ≤ l.length := by
      cases l with
      | nil => simp [runsV]
      | cons c r =>
        have := go_len r [] 1 c
        simp only [runsV, List.length_cons, List.length_nil] at this ⊢
        omega
    exact Ev.ifn hl (Ev.bind (runs_ev l (by omega) hr) (count_l0 l (runsV l) (by omega) (by omega) hr (runsV l) [] [] l none rfl rfl (good_runs l) (fun h => absurd rfl h)))
end Go.Proofs.Ytgbkfjdkejjmpaa.Pure
