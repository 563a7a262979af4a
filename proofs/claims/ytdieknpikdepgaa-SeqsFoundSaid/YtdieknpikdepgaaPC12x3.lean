/- For the laws of the group C12: the Lean functions that the Go functions compute, and proofs that they do. Written by wip/hprint.py of this repo over the kit's printer; nothing here is trusted: Lean checks it. -/
import Derived.Test.YtdieknpikdepgaaPC12x0
namespace Go.Proofs.Ytdieknpikdepgaa.PC12
open Go.RowKit Go.Proofs.YtdieknpikdepgaaW.PrintWords Go.Proofs.YtdieknpikdepgaaW.PrintLast Go.Proofs.YtdieknpikdepgaaW.PrintMore
attribute [local go_sem] max2_int min2_int max_two min_two max_three min_three max_four min_four   -- for this text's walks alone
set_option linter.unusedVariables false
set_option linter.unusedSimpArgs false

-- NOT PRINTED: function 38 (seqs_kept)

/-! ### seqs_runs: function 17: by hand -/
section
open Go.Proofs.YtdieknpikdepgaaH
/-- The places that have a level, and their levels. -/
def seqs_runs.kp : Nat → List Int → List (Int × Int)
 | _, [] => []
 | i, x :: r => if 0 ≤ x then ((i : Int), x) :: seqs_runs.kp (i + 1) r else seqs_runs.kp (i + 1) r
theorem seqs_runs.kp_step (l : List Int) (i : Nat) (hi : i < l.length) : seqs_runs.kp i (l.drop i) = if 0 ≤ rd l (i : Int) then ((i : Int), rd l (i : Int)) :: seqs_runs.kp (i + 1) (l.drop (i + 1)) else seqs_runs.kp (i + 1) (l.drop (i + 1)) := by
 rw [List.drop_eq_getElem_cons hi]
 have e : rd l (i : Int) = l[i] := by
  unfold rd
  rw [Int.toNat_natCast, List.getD_eq_getElem?_getD, List.getElem?_eq_getElem hi]
  rfl
 rw [e]
 rfl
def seqs_runs.enc (y : Int × Int) : Array Value := #[.int .i64 y.1, .int .i64 y.2]
/-- What a round keeps. -/
def seqs_runs.KP (B bp : Nat) (X Y : World) : Prop := Below B X Y ∧ ∀ o, X.heap[bp]? = some o → Y.heap[bp]? = some o
theorem seqs_runs.KP_t {B bp : Nat} {X Y Z : World} (h : seqs_runs.KP B bp X Y) (g : seqs_runs.KP B bp Y Z) : seqs_runs.KP B bp X Z := ⟨h.1.trans g.1, fun o ho => g.2 o (h.2 o ho)⟩
theorem seqs_runs.KP_b {B bp : Nat} {W0 : World} (hB : B ≤ W0.heap.size) (hbp : bp < W0.heap.size) (W : World) (l : Nat) (o o' : Obj) (hl : W0.heap.size ≤ l) (h : W.heap[l]? = some o) (h1 : o.isCells = false) (h2 : o.isWalk = false) : seqs_runs.KP B bp W (W.putObj l o') :=
 ⟨belowK_b (w := W0) hB W l o o' hl h h1 h2, fun q hq => (World.putObj_heap_other (by omega)).trans hq⟩
/-- One more place. -/
def seqs_runs.add (out : List S41) (x : Int × Int) : List S41 :=
 if out.length = 0 ∨ (out.getD (out.length - 1) z41).f0 ≠ x.2 then out ++ [⟨x.2, x.1, x.1, [x.1]⟩]
 else out.set (out.length - 1) ⟨(out.getD (out.length - 1) z41).f0, (out.getD (out.length - 1) z41).f1, x.1, (out.getD (out.length - 1) z41).f3 ++ [x.1]⟩
def seqs_runs.all (ps : List (Int × Int)) : List S41 := ps.foldl seqs_runs.add []
def seqs_runs.f (l0 : List Int) : Option (List S41) := if l0.length < 1000000 then some (seqs_runs.all (seqs_runs.kp 0 l0)) else none
attribute [local go_sem] Oper.semAt_some
set_option maxHeartbeats 2000000 in
set_option maxRecDepth 100000 in
theorem seqs_runs.it (n : Nat) (hn : 1 ≤ n) (l_ bp : Nat) (w0 : World) (A : Option Addr) (c : Nat) (l : List Int) (hl : l.length < 1000000) (J Jx : List (Int × Int) → World → Prop)
  (HR : Aside0 (Kd.C (Kd.int .i64) w0 A l.length l)) (HC : Aside0 (l.length ≤ c))
  (hY : ∀ pre x W, J pre W → pre.length < (seqs_runs.kp 0 l).length → YieldAt Fence.wide (n - 1) Try.prog l_ (seqs_runs.enc x) W fun e W' => (e = .returned (.bool true) ∧ J (pre ++ [x]) W' ∧ seqs_runs.KP w0.heap.size bp W W') ∨ (e = .returned (.bool false) ∧ Jx (pre ++ [x]) W'))
  (W : World) (hJ : AbidesFrom W.heap.size J) (hb : Aside0 (Below w0.heap.size w0 W)) (hbp : Aside0 (W.heap[bp]? = some (.cells #[.slice A l.length c] 22 (0, 0)))) (h0 : J [] W) :
  CallsIn Fence.wide n Try.prog 47 #[.func (.yield l_) #[] #[], .pointer (some ⟨bp, 0, none⟩)] W fun e W' => (∃ v, e = .returned v) ∧ ((∃ xs, xs = seqs_runs.kp 0 l ∧ J xs W') ∨ (∃ pre, True ∧ Jx pre W')) := by
 refine callsIn_of_wp Try.func47 rfl trivial ?_ rfl
 simp only [Try.ntmps47, List.size_toArray, List.length_cons, List.length_nil, Nat.reduceAdd, Nat.reduceSub, Array.replicate_succ, Array.replicate_zero, List.push_toArray, List.append_toArray, List.nil_append, List.cons_append]
 have x0 := (blk_cell hbp.out 0).trans rfl
 have HY := Aside0.mk hY
 have HJ := Aside0.mk hJ
 have H0 := Aside0.mk h0
 clear hY hJ h0
 gi_wp2
 clear x0
 gi_loopg [7] (l.length) (fun kx s7 wr => ∃ (pre : List (Int × Int)) (i : Nat) (ii : Int), s7 = .int .i64 ii ∧ Aside0 (ii = (i : Int)) ∧ i ≤ l.length ∧ kx = l.length - i ∧ Aside0 (seqs_runs.kp 0 l = pre ++ seqs_runs.kp i (l.drop i)) ∧ Aside0 (J pre wr) ∧ Aside0 (Below w0.heap.size w0 wr) ∧ Aside0 (wr.heap[bp]? = some (.cells #[.slice A l.length c] 22 (0, 0))) ∧ Aside0 (W.heap.size ≤ wr.heap.size))
 case atStart => exact ⟨[], 0, 0, rfl, ⟨rfl⟩, Nat.zero_le _, rfl, ⟨rfl⟩, H0, hb, hbp, ⟨Nat.le_refl _⟩⟩
 case round =>
  clear H0 hb hbp
  obtain ⟨pre, i, ii, rfl, hii, hil, rfl, HYS, H0, hb, hbp, hsz⟩ := hrel
  by_cases hi : i < l.length
  ·
   have hi' : ii < (l.length : Int) := by rw [hii.out]; omega
   have hi0 : (0 : Int) ≤ ii := by rw [hii.out]; omega
   have hib : ii < 1000000 := by rw [hii.out]; omega
   obtain ⟨ad, hA, hcell⟩ := Kd.at_int (Kd.C_below HR.out hb.out) ii hi0 hi'
   have HS := HYS.out
   rw [seqs_runs.kp_step l i hi, ← hii.out] at HS
   have hn1 := Aside0.mk (show ii + 1 = ((i + 1 : Nat) : Int) by rw [hii.out]; omega)
   by_cases hx : 0 ≤ rd l ii
   ·
    rw [if_pos hx] at HS
    have c1 : decide (0 ≤ rd l ii) = true := decide_eq_true hx
    have hlen : pre.length < (seqs_runs.kp 0 l).length := by rw [HS]; simp
    have HS' := Aside0.mk HS
    subst hA
    obtain ⟨fn, tmps, assign, body, hy, hR⟩ := HY.out pre (ii, rd l ii) wr H0.out hlen
    dsimp only [seqs_runs.enc] at hy
    have Hi := Aside0.mk hi
    clear HS HYS hlen hx hil hi
    gi_wp2
    refine hR.mono ?_
    rintro e W6 (⟨rfl, hJ6, hk6⟩ | ⟨rfl, hJx6⟩)
    ·
     have h6 := Aside0.mk hJ6
     have k6 := Aside0.mk hk6
     clear hJ6 hk6 hy hR
     gi_wp2
     gi_roundg (l.length - (i + 1))
     case measure => have := Hi.out; omega
     case rel => exact ⟨pre ++ [(ii, rd l ii)], i + 1, ii + 1, rfl, hn1, Hi.out, rfl, ⟨by rw [HS'.out]; simp⟩, h6, ⟨hb.out.trans k6.out.1⟩, ⟨k6.out.2 _ hbp.out⟩, ⟨Nat.le_trans hsz.out k6.out.1.size⟩⟩
    ·
     have h6 := Aside0.mk hJx6
     clear hJx6 hy hR
     gi_wp2
     refine bodyPost_ret (results_none rfl _ _ _) rfl ?_
     exact ⟨⟨_, rfl⟩, .inr ⟨_, trivial, h6.out⟩⟩
   ·
    rw [if_neg hx] at HS
    have c1 : decide (0 ≤ rd l ii) = false := decide_eq_false hx
    have HS' := Aside0.mk HS
    subst hA
    have Hi := Aside0.mk hi
    clear HS HYS hx hil hi
    gi_wp2
    refine ⟨(fun f h => by cases h), ?_⟩
    gi_wp2
    gi_roundg (l.length - (i + 1))
    case measure => have := Hi.out; omega
    case rel => exact ⟨pre, i + 1, ii + 1, rfl, hn1, Hi.out, rfl, HS', H0, hb, hbp, hsz⟩
  ·
   have hi' : ¬ ii < (l.length : Int) := by rw [hii.out]; omega
   have e := HYS.out
   obtain rfl : i = l.length := by omega
   rw [List.drop_length] at e
   have e2 : seqs_runs.kp 0 l = pre := by rw [e]; simp [seqs_runs.kp]
   have H1 : Aside0 (J (seqs_runs.kp 0 l) wr) := ⟨e2 ▸ H0.out⟩
   clear HYS e e2 H0 hil hi
   gi_wp2
   go_end0
   exact ⟨⟨_, rfl⟩, .inl H1.out⟩
theorem seqs_runs.all_snoc (pre : List (Int × Int)) (x : Int × Int) : seqs_runs.all (pre ++ [x]) = seqs_runs.add (seqs_runs.all pre) x := by simp [seqs_runs.all, List.foldl_append]
theorem seqs_runs.add_len (out : List S41) (x : Int × Int) : (seqs_runs.add out x).length ≤ out.length + 1 := by
 unfold seqs_runs.add
 split <;> simp
theorem seqs_runs.fold_len : ∀ (ps : List (Int × Int)) (out : List S41), (ps.foldl seqs_runs.add out).length ≤ out.length + ps.length
 | [], out => Nat.le_refl _
 | x :: ps, out => by
  have h1 := seqs_runs.fold_len ps (seqs_runs.add out x)
  have h2 := seqs_runs.add_len out x
  simp only [List.foldl_cons, List.length_cons]
  omega
theorem seqs_runs.all_len (ps : List (Int × Int)) : (seqs_runs.all ps).length ≤ ps.length := by
 have := seqs_runs.fold_len ps []
 simpa [seqs_runs.all] using this
theorem seqs_runs.kp_len : ∀ (l : List Int) (i : Nat), (seqs_runs.kp i l).length ≤ l.length
 | [], _ => Nat.le_refl _
 | x :: l, i => by
  have := seqs_runs.kp_len l (i + 1)
  unfold seqs_runs.kp
  split <;> simp only [List.length_cons] <;> omega
theorem seqs_runs.add_f3 (n : Nat) (out : List S41) (x : Int × Int) (h : ∀ r ∈ out, r.f3.length ≤ n) : ∀ r ∈ seqs_runs.add out x, r.f3.length ≤ n + 1 := by
 intro r hr
 unfold seqs_runs.add at hr
 split at hr
 ·
  rcases List.mem_append.1 hr with hr | hr
  ·
   exact Nat.le_succ_of_le (h r hr)
  ·
   obtain rfl := List.mem_singleton.1 hr
   simp
 ·
  rename_i hn
  rcases List.mem_or_eq_of_mem_set hr with hr | hr
  ·
   exact Nat.le_succ_of_le (h r hr)
  ·
   subst hr
   have hl : out.length - 1 < out.length := by omega
   have := h (out.getD (out.length - 1) z41) (by rw [List.getD_eq_getElem?_getD, List.getElem?_eq_getElem hl]; exact List.getElem_mem hl)
   simp only [List.length_append, List.length_cons, List.length_nil]
   omega
theorem seqs_runs.fold_f3 : ∀ (ps : List (Int × Int)) (n : Nat) (out : List S41), (∀ r ∈ out, r.f3.length ≤ n) → ∀ r ∈ ps.foldl seqs_runs.add out, r.f3.length ≤ n + ps.length
 | [], _, _, h => h
 | x :: ps, n, out, h => fun r hr => by
  have := seqs_runs.fold_f3 ps (n + 1) (seqs_runs.add out x) (seqs_runs.add_f3 n out x h) r hr
  simp only [List.length_cons]
  omega
theorem seqs_runs.all_f3 (ps : List (Int × Int)) : ∀ r ∈ seqs_runs.all ps, r.f3.length ≤ ps.length := fun r hr => by
 have := seqs_runs.fold_f3 ps 0 [] (by simp) r hr
 omega
theorem seqs_runs.kept_calls (S : Value) (hS : S.oneCell' = true) (W : World) : Calls Try.prog 38 #[S] W fun e w' => e = .returned (.func (.func 47) #[] #[.pointer (some ⟨W.heap.size, 0, none⟩)]) ∧ w' = W.alloc (.cells #[S] 22) := by
 go_enter Try.func38, Try.ntmps38
 go_wp2
 go_ret
 exact ⟨rfl, rfl⟩
theorem seqs_runs.stops (bp : Nat) (w : World) (A : Option Addr) (c : Nat) (l : List Int) (hl : l.length < 1000000)
  (HR : Aside0 (Kd.C (Kd.int .i64) w A l.length l)) (HC : Aside0 (l.length ≤ c)) (W0 : World) (hb : Below w.heap.size w W0) (hbp : W0.heap[bp]? = some (.cells #[.slice A l.length c] 22 (0, 0))) :
  SeqStopsK Fence.wide 5 Try.prog 47 #[.pointer (some ⟨bp, 0, none⟩)] seqs_runs.enc (seqs_runs.KP w.heap.size bp) (fun xs => xs = seqs_runs.kp 0 l) (fun _ => True) (seqs_runs.kp 0 l).length W0 :=
 fun l_ J Jx W hW hJ hJx hY h0 => seqs_runs.it 5 (by omega) l_ bp w A c l hl J Jx HR HC hY W hJ ⟨below_weaken hb hb.size hW⟩ ⟨blk_below hbp hW⟩ h0
theorem seqs_runs.own (base bo bp B : Nat) : OwnFrom B (fun (pre : List (Int × Int)) W => ∃ v, Boxed W bo 37 v ∧ Kd.S k41 41 W base (fun k => k ≠ bo ∧ k ≠ bp) v (seqs_runs.all pre)) := by
 rintro pre X Y row ⟨v, hv, hS⟩ hg hr
 have no : ∀ k, (∃ q cells, X.heap[k]? = some (.cells cells q (0, 0))) → some k ≠ row := fun k hk e => by
  obtain ⟨q, cells, hc⟩ := hk
  obtain ⟨_, o, ho, hcc⟩ := hr k e.symm
  rw [hc] at ho
  cases ho
  cases hcc
 refine ⟨v, hv.kept hg (no bo ⟨_, _, hv⟩), Kd.S_mono (Kd.S_grown (Kd.S_bound hS) hg (fun k hk => ?_)) (fun k hk => hk.1)⟩
 obtain ⟨q, _, cells, hc⟩ := hk.2.2.2
 exact no k ⟨q, cells, hc⟩
/-- Field 2 of element n is written. -/
theorem seqs_runs.sto2 {W : World} {base g m cap : Nat} {ok : Nat → Prop} {xs : List S41} (h : Kd.S k41 41 W base ok (.slice (some ⟨g, 0, none⟩) m cap) xs) (n : Nat) (hn : n < m) (u : Int) :
  Kd.S k41 41 (W.setCell ⟨g, n * 4 + 2, none⟩ (.int .i64 u)) base ok (.slice (some ⟨g, 0, none⟩) m cap) (xs.set n ⟨(xs.getD n z41).f0, (xs.getD n z41).f1, u, (xs.getD n z41).f3⟩) ∧ W.grownBy (W.setCell ⟨g, n * 4 + 2, none⟩ (.int .i64 u)) (some g) ∧ W.frozen? ⟨g, n * 4 + 2, none⟩ = false ∧ W.cell? ⟨g, n * 4 + 2, none⟩ = some (.int .i64 (xs.getD n z41).f2) := by
 obtain ⟨oki, c, hcl, hM, hcc, hfr, hoki, hH⟩ := Kd.S_elem h z41 (n : Int) (by omega) (by omega)
 obtain ⟨v3, rfl, g3⟩ := k41_openM hM
 obtain ⟨q1, q2⟩ := Kd.S_seg0 (d := k41) hH (by omega) (by omega) (j := 2) (seg := [.int .i64 u]) (x' := ⟨(xs.getD n z41).f0, (xs.getD n z41).f1, u, (xs.getD n z41).f3⟩) (okp := oki) (by show 2 + 1 ≤ 4; omega) (k41_mkM _ _ _ _ g3) (fun _ hk => hk)
 exact ⟨q1, q2, hfr 2, hcc 2 _ rfl⟩
/-- What a round of the body leaves. -/
def seqs_runs.post (B bo : Nat) (out : List S41) (W : World) : Exit → Act → World → Prop
 | .normal, _, W' => KeepsFrom B W W' ∧ Below bo W W' ∧ (∀ o, W.heap[bo + 1]? = some o → W'.heap[bo + 1]? = some o) ∧ ∃ v, Boxed W' bo 37 v ∧ Kd.S k41 41 W' bo (fun k => k ≠ bo ∧ k ≠ bo + 1) v out
 | _, _, _ => False
theorem seqs_runs.info : (Try.prog.info? 41).map (fun i => (i.zero, i.size, i.bytes)) = some (some (.agg #[(.int .i64 0), (.int .i64 0), (.int .i64 0), (.slice none 0 0)]), 4, 48) := by kernel_rfl
def seqs_runs.fst (out : List S41) (x0 x1 : Int) : List S41 := if out.length = 0 ∨ (out.getD (out.length - 1) z41).f0 ≠ x1 then out ++ [⟨x1, x0, 0, []⟩] else out
theorem seqs_runs.add_fst (out : List S41) (x0 x1 : Int) (n : Nat) (o1 o2 : List S41) (h1 : seqs_runs.fst out x0 x1 = o1) (hn : o1.length = n + 1) (h2 : o1.set n ⟨(o1.getD n z41).f0, (o1.getD n z41).f1, x0, (o1.getD n z41).f3⟩ = o2) :
  seqs_runs.add out (x0, x1) = o2.set n ⟨(o2.getD n z41).f0, (o2.getD n z41).f1, (o2.getD n z41).f2, (o2.getD n z41).f3 ++ [x0]⟩ := by
 have hg : o2.getD n z41 = ⟨(o1.getD n z41).f0, (o1.getD n z41).f1, x0, (o1.getD n z41).f3⟩ := by
  rw [← h2, List.getD_eq_getElem?_getD, List.getElem?_set_self (by omega)]
  rfl
 rw [hg, ← h2, List.set_set]
 dsimp only
 unfold seqs_runs.fst at h1
 unfold seqs_runs.add
 dsimp only
 split at h1
 ·
  rename_i hc
  rw [if_pos hc]
  subst h1
  have hl : out.length = n := by simpa using hn
  have hgn : (out ++ [(⟨x1, x0, 0, []⟩ : S41)]).getD n z41 = ⟨x1, x0, 0, []⟩ := by
   rw [List.getD_eq_getElem?_getD, List.getElem?_append_right (by omega), hl, Nat.sub_self]
   rfl
  rw [hgn, List.set_append_right _ _ (by omega), hl, Nat.sub_self]
  rfl
 ·
  rename_i hc
  rw [if_neg hc]
  subst h1
  rw [show out.length - 1 = n by omega]
theorem seqs_runs.fst_f3 (out : List S41) (x0 x1 : Int) (m : Nat) (h : ∀ r ∈ out, r.f3.length ≤ m) : ∀ r ∈ seqs_runs.fst out x0 x1, r.f3.length ≤ m := by
 intro r hr
 unfold seqs_runs.fst at hr
 split at hr
 ·
  rcases List.mem_append.1 hr with hr | hr
  ·
   exact h r hr
  ·
   obtain rfl := List.mem_singleton.1 hr
   exact Nat.zero_le _
 ·
  exact h r hr
/-- Where the place's run is there. -/
def seqs_runs.mid (A0 : Option Addr) (n0 c0 B bo : Nat) (x0 x1 : Int) (out : List S41) (W : World) : Exit → Act → World → Prop
 | .normal, a, W' => KeepsOthers W W' ∧ Below bo W W' ∧ (∀ o, W.heap[bo + 1]? = some o → W'.heap[bo + 1]? = some o) ∧ ∃ (g cap n : Nat) (ki : Int), ∃ u11 u12 u13 u14 u15 u16 u17 u18 u19 u20 u21 u22 u23 u24 u25 u26 u27 u28 u29 u30 u31 u32 : Value, a = { tmps := #[Value.slice A0 n0 c0, undef, Value.slice none 0 0, Value.pointer (some { block := bo, off := 0 }), Value.int IntKind.i64 x0, Value.int IntKind.i64 x1, Value.int IntKind.i64 ki, Value.slice A0 n0 c0, Value.func (Fn.func 47) #[] #[Value.pointer (some { block := bo + 1, off := 0 })], Value.int IntKind.i64 x0, Value.int IntKind.i64 x1, u11, u12, u13, u14, u15, u16, u17, u18, u19, u20, u21, u22, u23, u24, u25, u26, u27, u28, u29, u30, u31, u32, undef, undef, undef, undef, undef, undef, undef, undef, undef, undef, undef, undef, undef, undef, undef, undef, undef, undef], defers := [] } ∧ ki = (n : Int) ∧ (seqs_runs.fst out x0 x1).length = n + 1 ∧ Boxed W' bo 37 (.slice (some ⟨g, 0, none⟩) (n + 1) cap) ∧ Kd.S k41 41 W' bo (fun k => k ≠ bo ∧ k ≠ bo + 1) (.slice (some ⟨g, 0, none⟩) (n + 1) cap) (seqs_runs.fst out x0 x1)
 | _, _, _ => False
set_option maxHeartbeats 2000000 in
set_option maxRecDepth 100000 in
theorem seqs_runs.calls (A0 : Option Addr) (c0 : Nat) (l0 : List Int) (r : List S41) (w : World) (hr0 : Kd.C (Kd.int .i64) w A0 l0.length l0) (hc0 : l0.length ≤ c0) (h : seqs_runs.f l0 = some r) :
  Calls Try.prog 17 #[.slice A0 l0.length c0] w fun e w' => ∃ v0_ : Value, e = .returned v0_ ∧ Kd.S k41 41 w' w.heap.size (fun _ => True) v0_ r ∧ Below w.heap.size w w' := by
 unfold seqs_runs.f at h
 by_cases hl : l0.length < 1000000
 ·
  rw [if_pos hl] at h
  obtain rfl := Option.some.inj h
  clear h
  have HR := Aside0.mk hr0
  have HC := Aside0.mk hc0
  clear hr0 hc0
  refine (callsIn_wide (n := 6)).1 ?_
  refine callsIn_of_wp_marks Try.func17 rfl trivial ?_ rfl
  simp only [Try.ntmps17, List.size_toArray, List.length_cons, List.length_nil, Nat.reduceAdd, Nat.reduceSub, Array.replicate_succ, Array.replicate_zero, List.push_toArray, List.append_toArray, List.nil_append, List.cons_append]
  gi_wp2_with (refine ⟨trivial, ?_⟩; gi_at_call 38; refine (callsIn_wide.2 (seqs_runs.kept_calls (.slice A0 l0.length c0) rfl _)).mono ?_; rintro e w2 ⟨rfl, rfl⟩)
  have bO := (Boxed.new w 37 (.slice none 0 0)).alloc (.cells #[.slice A0 l0.length c0] 22)
  have bP := blk_new (w.alloc (.cells #[.slice none 0 0] 37)) (.cells #[.slice A0 l0.length c0] 22 (0, 0))
  have hB0 : Below w.heap.size w ((w.alloc (.cells #[.slice none 0 0] 37)).alloc (.cells #[.slice A0 l0.length c0] 22)) := below_alloc (below_alloc (Below.refl _ _) _) _
  rw [World.size_alloc] at bP
  obtain ⟨W0, hW0⟩ : ∃ W0, ((w.alloc (.cells #[.slice none 0 0] 37)).alloc (.cells #[.slice A0 l0.length c0] 22)) = W0 := ⟨_, rfl⟩
  have hsz : W0.heap.size = w.heap.size + 1 + 1 := by rw [← hW0, World.size_alloc, World.size_alloc]
  rw [hW0] at bO bP hB0 ⊢
  clear hW0
  obtain ⟨bo, hbo⟩ : ∃ bo, w.heap.size = bo := ⟨_, rfl⟩
  rw [hbo] at bO bP hsz ⊢
  rw [hbo] at hB0
  refine wpIn_rangeFunc_ownH (F := Fence.wide) rfl (by omega) (gf := 47) (lb := #[.pointer (some ⟨bo + 1, 0, none⟩)]) rfl trivial (enters_of Try.func47 (by kernel_rfl) rfl)
   (seqs_runs.stops (bo + 1) w A0 c0 l0 hl HR HC W0 (by rw [hbo]; exact hB0) bP) seqs_runs.KP_t (seqs_runs.KP_b (by omega) (by omega)) (Below.refl _ _) (fun _ => rfl)
   (fun pre W => ((∃ v, Boxed W bo 37 v ∧ Kd.S k41 41 W bo (fun k => k ≠ bo ∧ k ≠ bo + 1) v (seqs_runs.all pre)) ∧ W.heap[bo + 1]? = some (.cells #[.slice A0 l0.length c0] 22 (0, 0))) ∧ Below bo w W)
   (fun _ _ _ => False)
   (OwnFrom.and (OwnFrom.and (seqs_runs.own bo bo (bo + 1) _) (fun s X Y row hs hg hr => blk_grown hs hg (fun e => by
    obtain ⟨_, o, ho, hc⟩ := hr _ e.symm
    have e2 := hs.symm.trans ho
    injection e2 with e2
    rw [← e2] at hc
    cases hc))) (ownFrom_below (by omega) (by omega)))
   (fun _ _ _ _ _ hs _ _ => hs)
   ⟨⟨⟨_, bO, Kd.S_nil _ _ _ _ _⟩, bP⟩, hB0⟩
   (fun x a' _ => a' = { tmps := #[Value.slice A0 l0.length c0, undef, Value.slice none 0 0, Value.pointer (some { block := bo, off := 0 }), Value.int IntKind.i64 x.1, Value.int IntKind.i64 x.2, undef, Value.slice A0 l0.length c0, Value.func (Fn.func 47) #[] #[Value.pointer (some { block := bo + 1, off := 0 })], Value.int IntKind.i64 x.1, Value.int IntKind.i64 x.2, undef, undef, undef, undef, undef, undef, undef, undef, undef, undef, undef, undef, undef, undef, undef, undef, undef, undef, undef, undef, undef, undef, undef, undef, undef, undef, undef, undef, undef, undef, undef, undef, undef, undef, undef, undef, undef, undef, undef, undef], defers := [] })
   (fun x a' _ X Y row hs hg hr => hs)
   ?assign ?body ?done ?stop
  case assign =>
   rintro l_ pre x W K hI hK
   obtain ⟨x0, x1⟩ := x
   dsimp only [seqs_runs.enc] at hK ⊢
   gi_wp2
   exact hK _ _ (KeepsFrom.refl _ _) ⟨Below.refl _ _, fun o ho => ho⟩ hI rfl
  case body =>
   rintro l_ pre x a' W hlw ⟨r, hr⟩ ⟨⟨⟨v, hv, hS⟩, hbp⟩, hB⟩ rfl hlt
   obtain ⟨x0, x1⟩ := x
   dsimp only
   refine wpIn_mono (Q := seqs_runs.post W0.heap.size bo (seqs_runs.add (seqs_runs.all pre) (x0, x1)) W) ?_ (fun e a2 W2 h => by
    cases e with
    | normal =>
     obtain ⟨h1, h2, h3, h4⟩ := h
     exact ⟨h1, ⟨by rw [hbo]; exact h2, h3⟩, ⟨⟨by rw [seqs_runs.all_snoc]; exact h4, h3 _ hbp⟩, hB.trans h2⟩⟩
    | ret => exact h.elim
    | exit => exact h.elim
    | goto => exact h.elim
    | panic => exact h.elim
    | outgrown => exact h.elim)
   have hol := seqs_runs.all_len pre
   have hpl := seqs_runs.kp_len l0 0
   have hof := seqs_runs.all_f3 pre
   generalize seqs_runs.all pre = out at hS hol hof ⊢
   obtain ⟨A, c, rfl, hc, hC⟩ := Kd.S_reads hS
   have y0 := hv.cell
   have HS := Aside0.mk hS
   have HV := Aside0.mk hv
   have HP := Aside0.mk hbp
   have HBB := Aside0.mk hB
   have HO := Aside0.mk hof
   have hl1 : out.length < 1000000 := by omega
   have HPL := Aside0.mk (show pre.length < 1000000 by omega)
   have HL1 := Aside0.mk (show (out.length + 1) * 48 ≤ 140737488355328 by omega)
   clear hS hv hbp hB hr hof hol hpl hlt
   have HFR := Aside0.mk (show ∀ k, W.heap.size ≤ k → k ≠ bo ∧ k ≠ bo + 1 from fun k hk => by have := blk_lt HP.out; omega)
   have HBS := Aside0.mk (show bo ≤ W.heap.size by have := blk_lt HP.out; omega)
   have h1n : (0 : Int) ≤ (out.length : Int) := Int.natCast_nonneg _
   gi_upto_region 6 with (fail)
   rename_i KT hKT K6 hK6
   obtain ⟨kk, hkk⟩ : ∃ kk : Int, (out.length : Int) - 1 = kk := ⟨_, rfl⟩
   rw [hkk]
   have HKK := Aside0.mk hkk
   have p2 : kk < 1000000 := by omega
   have p3 : -1 ≤ kk := by omega
   have tail : ∀ a2 W2, seqs_runs.mid A0 l0.length c0 W0.heap.size bo x0 x1 out W .normal a2 W2 → KT a2 W2 := by
    rintro a2 W2 ⟨t1, t2, t3, g, cap, n, ki, u11, u12, u13, u14, u15, u16, u17, u18, u19, u20, u21, u22, u23, u24, u25, u26, u27, u28, u29, u30, u31, u32, rfl, hki, hn, hv, hS⟩
    refine hKT _ _ ?_
    have HN := Aside0.mk hn
    have HKI := Aside0.mk hki
    have hadd := seqs_runs.add_fst out x0 x1 n _ _ rfl hn rfl
    have hfl := seqs_runs.fst_f3 out x0 x1 pre.length HO.out
    generalize seqs_runs.fst out x0 x1 = o1 at hS HN hadd hfl
    have hf1 : (o1.getD n z41).f3.length ≤ pre.length := hfl _ (by rw [List.getD_eq_getElem?_getD, List.getElem?_eq_getElem (show n < o1.length by rw [HN.out]; omega)]; exact List.getElem_mem _)
    have hf2 : ((o1.set n ⟨(o1.getD n z41).f0, (o1.getD n z41).f1, x0, (o1.getD n z41).f3⟩).getD n z41).f3.length ≤ pre.length := by
     rw [List.getD_eq_getElem?_getD, List.getElem?_set_self (by rw [HN.out]; omega)]
     exact hf1
    clear hfl hf1
    obtain ⟨s1, s2, s3, s4⟩ := seqs_runs.sto2 hS n (Nat.lt_succ_self n) x0
    have hc2 := hv.cell
    have k0 : 0 ≤ ki := by omega
    have k1 : ki < ((n + 1 : Nat) : Int) := by omega
    have k2 : ki < (n : Int) + 1 := by omega
    have hadr : n * 4 + 2 = ki.toNat * 4 + 2 := by rw [hki, Int.toNat_natCast]
    rw [hadr] at s1 s2 s3 s4
    clear hadr hki hn
    gi_upto_region 10 with (fail)
    obtain ⟨W3, hW3⟩ : ∃ W3, (W2.setCell ⟨g, ki.toNat * 4 + 2, none⟩ (.int .i64 x0)) = W3 := ⟨_, rfl⟩
    rw [hW3] at s1 s2 ⊢
    have hv3 := hv.kept s2 (show some bo ≠ some g from fun e => by have := Kd.S_away hS (g := bo) (fun k hk => hk.1); simp [Value.ownBlock] at this e; exact this e)
    have bq3 := blk_grown (t3 _ HP.out) s2 (show some (bo + 1) ≠ some g from fun e => by have := Kd.S_away hS (g := bo + 1) (fun k hk => hk.2); simp [Value.ownBlock] at this e; exact this e)
    obtain ⟨W4, hW4⟩ : ∃ W4, W3.drew = W4 := ⟨_, rfl⟩
    have hsz4 : W4.heap.size = W3.heap.size := by rw [← hW4]; rfl
    have q3 := Kd.S_drew (Kd.S_mono (Kd.S_bound s1) (fun k hk => (⟨hk.1, Nat.not_le.2 hk.2.2.1⟩ : (k ≠ bo ∧ k ≠ bo + 1) ∧ ¬ W3.heap.size ≤ k)))
    rw [hW4, ← hsz4] at q3
    have S3 := Aside0.mk q3
    clear q3
    have BQ4 := Aside0.mk (show W4.heap[bo + 1]? = some (.cells #[.slice A0 l0.length c0] 22 (0, 0)) by rw [← hW4]; exact bq3)
    have KO4 := Aside0.mk (show KeepsOthers W W4 by rw [← hW4]; exact (t1.trans (KeepsOthers.of_grownBy s2 (fun j o hj ho => by obtain ⟨cells, hc3⟩ := Kd.S_typed hS j (by simpa [Value.ownBlock] using hj); rw [hc3] at ho; cases ho; rfl))).trans (KeepsOthers.drew _))
    have B4 := Aside0.mk (show Below bo W W4 by rw [← hW4, ← hW3]; exact (t2.setCell (p := ⟨g, ki.toNat * 4 + 2, none⟩) (Kd.S_base hS g (by simp [Value.ownBlock])) _).drew)
    have hln : (o1.set n ⟨(o1.getD n z41).f0, (o1.getD n z41).f1, x0, (o1.getD n z41).f3⟩).length = n + 1 := by rw [List.length_set]; exact HN.out
    generalize (o1.set n ⟨(o1.getD n z41).f0, (o1.getD n z41).f1, x0, (o1.getD n z41).f3⟩) = o2 at S3 hln hadd hf2
    have hkn : ki.toNat = n := by rw [HKI.out, Int.toNat_natCast]
    rw [← hkn] at hadd hf2
    have HADD := Aside0.mk hadd
    have HF2 := Aside0.mk hf2
    clear hadd hf2 hkn
    have G2 := Aside0.mk s2
    have HV3 := Aside0.mk (show Boxed W4 bo 37 (.slice (some ⟨g, 0, none⟩) (n + 1) cap) by rw [← hW4]; exact hv3)
    clear s1 s2 s3 s4 hv hS hc2 hv3
    obtain ⟨oki, c, hcl, hM, hcc, hfr, hoki, hH⟩ := Kd.S_elem S3.out z41 ki k0 k1
    obtain ⟨v3, rfl, g3⟩ := k41_openM hM
    obtain ⟨f3, hf3⟩ : ∃ f3, (o2.getD ki.toNat z41).f3 = f3 := ⟨_, rfl⟩
    rw [hf3] at g3
    have HF3 := Aside0.mk hf3
    have hf4 : f3.length < 1000000 := by have h4 := HF2.out; have h5 := HPL.out; rw [hf3] at h4; omega
    clear hf3
    obtain ⟨A3, c3, rfl⟩ := Kd.R_slice g3
    have cb := HV3.out.cell
    have ce : W4.cell? ⟨g, ki.toNat * 4 + 3, none⟩ = some (.slice A3 f3.length c3) := hcc 3 _ rfl
    refine start_inR (m := 13) (S := fun w' => w'.cell? ⟨bo, 0, none⟩ = some (.slice (some ⟨g, 0, none⟩) (n + 1) cap) ∧ w'.cell? ⟨g, ki.toNat * 4 + 3, none⟩ = some (.slice A3 f3.length c3)) (ds := [12]) #[false, false, false, false, false, false, false, false, false, false, false, false, false] (by kernel_rfl) (fun _ _ h => h) (by kernel_rfl) rfl rfl (hW4 ▸ ⟨cb, ce⟩) (fun hHeld => ?_)
    rw [hW4] at hHeld ⊢
    clear cb ce
    refine take_ (i := 0) (N := some 38) (v := ?_) (a' := ?_) #[true, false, false, false, false, false, false, false, false, false, false, false, false] rfl rfl (by kernel_rfl) (fun _ _ _ h => h) (Or.inl ⟨by rfl, ?_⟩) hHeld ?_ ?_
    rotate_left
    ·
     rintro w' ⟨s0, s1⟩
     go_simp
     with_reducible rfl
    rotate_left
    ·
     simp only [Act.put, List.setIfInBounds_toArray, List.set_cons_zero, List.set_cons_succ, i64_w, i32_w]
     rfl
    refine pure_ (i := 1) (N := some 39) (v := ?_) (a' := ?_) #[true, true, false, false, false, false, false, false, false, false, false, false, false] rfl rfl (by kernel_rfl) (fun _ _ _ h => h) (Or.inl ⟨by rfl, ?_⟩) ?_ ?_
    rotate_left
    ·
     intro w'
     go_simp
     with_reducible rfl
    rotate_left
    ·
     simp only [Act.put, List.setIfInBounds_toArray, List.set_cons_zero, List.set_cons_succ, i64_w, i32_w]
     rfl
    refine take_ (i := 2) (N := some 40) (v := ?_) (a' := ?_) #[true, true, true, false, false, false, false, false, false, false, false, false, false] rfl rfl (by kernel_rfl) (fun _ _ _ h => h) (Or.inl ⟨by rfl, ?_⟩) hHeld ?_ ?_
    rotate_left
    ·
     rintro w' ⟨s0, s1⟩
     go_simp
     with_reducible rfl
    rotate_left
    ·
     simp only [Act.put, List.setIfInBounds_toArray, List.set_cons_zero, List.set_cons_succ, i64_w, i32_w]
     rfl
    refine pure_ (i := 3) (N := some 41) (v := ?_) (a' := ?_) #[true, true, true, true, false, false, false, false, false, false, false, false, false] rfl rfl (by kernel_rfl) (fun _ _ _ h => h) (Or.inl ⟨by rfl, ?_⟩) ?_ ?_
    rotate_left
    ·
     intro w'
     go_simp
     with_reducible rfl
    rotate_left
    ·
     simp only [Act.put, List.setIfInBounds_toArray, List.set_cons_zero, List.set_cons_succ, i64_w, i32_w]
     rfl
    refine pure_ (i := 4) (N := some 42) (v := ?_) (a' := ?_) #[true, true, true, true, true, false, false, false, false, false, false, false, false] rfl rfl (by kernel_rfl) (fun _ _ _ h => h) (Or.inl ⟨by rfl, ?_⟩) ?_ ?_
    rotate_left
    ·
     intro w'
     go_simp
     with_reducible rfl
    rotate_left
    ·
     simp only [Act.put, List.setIfInBounds_toArray, List.set_cons_zero, List.set_cons_succ, i64_w, i32_w]
     rfl
    refine pure_ (i := 5) (N := some 43) (v := ?_) (a' := ?_) #[true, true, true, true, true, true, false, false, false, false, false, false, false] rfl rfl (by kernel_rfl) (fun _ _ _ h => h) (Or.inl ⟨by rfl, ?_⟩) ?_ ?_
    rotate_left
    ·
     intro w'
     go_simp
     with_reducible rfl
    rotate_left
    ·
     simp only [Act.put, List.setIfInBounds_toArray, List.set_cons_zero, List.set_cons_succ, i64_w, i32_w]
     rfl
    refine take_ (i := 6) (N := some 44) (v := ?_) (a' := ?_) #[true, true, true, true, true, true, true, false, false, false, false, false, false] rfl rfl (by kernel_rfl) (fun _ _ _ h => h) (Or.inl ⟨by rfl, ?_⟩) hHeld ?_ ?_
    rotate_left
    ·
     rintro w' ⟨s0, s1⟩
     go_simp
     with_reducible rfl
    rotate_left
    ·
     simp only [Act.put, List.setIfInBounds_toArray, List.set_cons_zero, List.set_cons_succ, i64_w, i32_w]
     rfl
    refine pure_ (i := 7) (N := some 45) (v := ?_) (a' := ?_) #[true, true, true, true, true, true, true, true, false, false, false, false, false] rfl rfl (by kernel_rfl) (fun _ _ _ h => h) (Or.inl ⟨by rfl, ?_⟩) ?_ ?_
    rotate_left
    ·
     intro w'
     go_simp
     with_reducible rfl
    rotate_left
    ·
     simp only [Act.put, List.setIfInBounds_toArray, List.set_cons_zero, List.set_cons_succ, i64_w, i32_w]
     rfl
    refine one_ (i := 8) (N := some 46) #[true, true, true, true, true, true, true, true, true, false, false, false, false] rfl rfl (by kernel_rfl) (by decide) (fun K hK => ?_)
    refine event_step (w1 := W4.alloc (.cells #[.int .i64 x0] 3)) (v := .slice (some ⟨W4.heap.size, 0, none⟩) 1 1) (by rfl) (by go_simp) ?_
    have hA4 := Kd.H_at (Kd.H_grown hH (World.grownBy_alloc W4 (.cells #[.int .i64 x0] 3) none) (fun _ e => by cases e)) k0 k1
    refine hK.out _ _ ⟨(HV3.out.alloc _).cell, hA4.1 3 _ rfl⟩ (fun hHeld => ?_)
    clear hK K hA4
    refine norm_ (a' := ?_) ?_ ?_
    rotate_left
    ·
     show Act.put _ (some 46) _ = _
     simp only [Act.put, List.setIfInBounds_toArray, List.set_cons_zero, List.set_cons_succ, i64_w, i32_w]
     rfl
    refine one_ (i := 9) (N := some 47) #[true, true, true, true, true, true, true, true, true, true, false, false, false] rfl rfl (by kernel_rfl) (by decide) (fun K hK => ?_)
    refine Kd.R_append_step (Kd.int .i64) (w0 := W4) bo (by rfl) (.tmp 44) (.tmp 46) 22 3 (.int .i64 0) 8 rfl Try.underlying22 info3 rfl (by decide) (by omega) (.slice A3 f3.length c3) f3 x0 [.int .i64 x0] (fun k => oki k ∨ W4.heap.size ≤ k) (fun _ => False) (by first | rfl | (go_simp; done) | (go_simp; rfl) | trace_state) (by first | rfl | (go_simp; done) | (go_simp; rfl)) rfl (fun _ hk => hk.elim) (fun k hk => .inr hk) (Kd.R_mono g3 (fun k hk => .inl hk)) (Below.refl _ _) (by have := B4.out.size; have := HBS.out; omega) (by omega) ?_
    intro v_ w_ ho hb hg hat
    obtain ⟨A5, c5, rfl⟩ := Kd.R_slice ho
    have hH5 := Kd.H_grown hH hg (fun k e => g3.1 k e)
    have hv5 := HV3.out.kept hg (fun e => (hoki bo (g3.1 bo e.symm)).1.1.1 rfl)
    refine hK.out _ _ ⟨hv5.cell, (Kd.H_at hH5 k0 k1).1 3 _ rfl⟩ (fun hHeld => ?_)
    clear hK K
    refine norm_ (a' := ?_) ?_ ?_
    rotate_left
    ·
     show Act.put _ (some 47) _ = _
     simp only [Act.put, List.setIfInBounds_toArray, List.set_cons_zero, List.set_cons_succ, i64_w, i32_w]
     rfl
    refine pure_ (i := 10) (N := some 48) (v := ?_) (a' := ?_) #[true, true, true, true, true, true, true, true, true, true, true, false, false] rfl rfl (by kernel_rfl) (fun _ _ _ h => h) (Or.inl ⟨by rfl, ?_⟩) ?_ ?_
    rotate_left
    ·
     intro w'
     go_simp
     with_reducible rfl
    rotate_left
    ·
     simp only [Act.put, List.setIfInBounds_toArray, List.set_cons_zero, List.set_cons_succ, i64_w, i32_w]
     rfl
    refine pure_ (i := 11) (N := some 49) (v := ?_) (a' := ?_) #[true, true, true, true, true, true, true, true, true, true, true, true, false] rfl rfl (by kernel_rfl) (fun _ _ _ h => h) (Or.inl ⟨by rfl, ?_⟩) ?_ ?_
    rotate_left
    ·
     intro w'
     go_simp
     with_reducible rfl
    rotate_left
    ·
     simp only [Act.put, List.setIfInBounds_toArray, List.set_cons_zero, List.set_cons_succ, i64_w, i32_w]
     rfl
    refine last_ (i := 12) (N := none) #[true, true, true, true, true, true, true, true, true, true, true, true, true] rfl rfl (by kernel_rfl) (by decide) (fun K hK => ?_)
    have ff : w_.frozen? ⟨g, ki.toNat * 4 + 3, none⟩ = false := (Kd.H_at hH5 k0 k1).2 3
    have fc : w_.cell? ⟨g, ki.toNat * 4 + 3, none⟩ = some (.slice A3 f3.length c3) := (Kd.H_at hH5 k0 k1).1 3 _ rfl
    refine skip_ (w1 := ?_) (by rfl) rfl ?_ ?_
    rotate_left
    ·
     go_simp
     rfl
    refine hK.out _ _ ?_
    clear hK K
    refine done_ (by kernel_rfl) ?_
    have hlt4 : bo + 1 < W4.heap.size := blk_lt BQ4.out
    have hg4 : g < W4.heap.size := Kd.S_lt S3.out g (by simp [Value.ownBlock])
    have hbg : bo ≤ g := Kd.S_base S3.out g (by simp [Value.ownBlock])
    have hgn : g ≠ bo ∧ g ≠ bo + 1 := (S3.out.choose_spec.1 g (by simp [Value.ownBlock])).1
    have SS := Kd.S_seg (d := k41) (ok := fun k => k ≠ bo ∧ k ≠ bo + 1) (okg := fun k => W4.heap.size ≤ k) hH5 k0 k1 (j := 3) (seg := [.slice A5 (f3.length + 1) c5]) (x' := ⟨(o2.getD ki.toNat z41).f0, (o2.getD ki.toNat z41).f1, (o2.getD ki.toNat z41).f2, f3 ++ [x0]⟩) (okp := fun k => oki k ∨ W4.heap.size ≤ k) (by show 3 + 1 ≤ 4; omega) (k41_mkM _ _ _ _ (by rw [List.length_append] at ho; exact ho)) (fun _ hk => hk) (fun k hk => ⟨⟨by omega, by omega⟩, by omega⟩)
    exact ⟨((KO4.out.trans (KeepsOthers.of_grownBy hg (fun j o hj ho2 => by obtain ⟨cells, hc3⟩ := Kd.R_typed g3 j hj; rw [hc3] at ho2; cases ho2; rfl))).trans (KeepsOthers.setCell _ _ _)).from _, (B4.out.trans hb).setCell (p := ⟨g, ki.toNat * 4 + 3, none⟩) hbg _, (fun o ho2 => by rw [HP.out] at ho2; cases ho2; exact blk_far (blk_grown BQ4.out hg (fun e => (hoki (bo + 1) (g3.1 _ e.symm)).1.1.2 rfl)) (p := ⟨g, ki.toNat * 4 + 3, none⟩) (fun e => hgn.2 e.symm) _), _, hv5.kept SS.2 (fun e => by injection e with e; exact hgn.1 e.symm), by rw [HADD.out, HF3.out]; exact SS.1⟩
   clear hKT
   have TAIL := Aside0.mk tail
   clear tail
   by_cases h0 : out.length = 0
   ·
    have b0 : decide (kk < 0) = true := decide_eq_true (by omega)
    clear hkk
    have NEW := Aside0.mk (show seqs_runs.fst out x0 x1 = out ++ [⟨x1, x0, 0, []⟩] from if_pos (.inl h0))
    clear h0
    gi_upto_region 7 with (fail)
    refine region_inR (by kernel_rfl) (fun _ _ h => h) ?_
    go_wp2_with ((with_reducible refine gate_builtin (b := .append) (xs := #[.tmp 25, .tmp 29]) rfl ?_); at_builtin; refine Kd.S_append k41 (w0 := W) bo rfl (.tmp 25) (.tmp 29) 37 41 (.agg #[(.int .i64 0), (.int .i64 0), (.int .i64 0), (.slice none 0 0)]) 48 rfl Try.underlying37 seqs_runs.info rfl (by decide) (by omega) _ out (⟨x1, x0, 0, []⟩ : S41) [.int .i64 x1, .int .i64 x0, .int .i64 0, .slice none 0 0] (fun k => k ≠ bo ∧ k ≠ bo + 1) (fun _ => False) rfl (by first | (go_simp; done) | (go_simp; rfl)) (k41_mkM _ _ _ _ (Kd.R_nil _ _ _ _ _)) (fun _ hk => hk.elim) HFR.out (Kd.S_mono HS.out (fun k hk => ⟨hk, fun h => h⟩)) (Below.refl _ _) HBS.out HL1.out ?_; intro v_ w_ ho hb hg hat; obtain ⟨g, cap, rfl, _⟩ := Kd.S_form ho (by simp); have hv1 := HV.out.kept hg (Kd.S_away HS.out (fun k hk => hk.1)); have hc1 := hv1.cell; have hf1 := hv1.frozen; have N1 := Aside0.mk ho; have N2 := Aside0.mk hb; have N3 := Aside0.mk hg; have N4 := Aside0.mk hv1; clear ho hb hg hat hv1)
    gi_wp2
    exact TAIL.out _ _ ⟨(KeepsOthers.of_grownBy N3.out (fun j o hj ho => by obtain ⟨cells, hc2⟩ := Kd.S_typed HS.out j hj; rw [hc2] at ho; cases ho; rfl)).trans (KeepsOthers.setCell _ _ _), N2.out.setCell (p := ⟨bo, 0, none⟩) (Nat.le_refl bo) _, (fun o ho => by rw [HP.out] at ho; cases ho; exact blk_far (blk_grown HP.out N3.out (Kd.S_away HS.out (fun k hk => hk.2))) (p := ⟨bo, 0, none⟩) (by show bo + 1 ≠ bo; omega) _), g, cap, out.length, _, _, _, _, _, _, _, _, _, _, _, _, _, _, _, _, _, _, _, _, _, _, _, rfl, by have := HKK.out; omega, by rw [NEW.out, List.length_append]; rfl, N4.out.set _, by rw [NEW.out]; have q := Kd.S_far N1.out (p := ⟨bo, 0, none⟩) (fun k hk => hk.1) (.slice (some ⟨g, 0, none⟩) (out.length + 1) cap); rw [List.length_append] at q; exact q⟩
   ·
    have b0 : decide (kk < 0) = false := decide_eq_false (by omega)
    have p0 : 0 ≤ kk := by omega
    have p1 : kk < (out.length : Int) := by omega
    obtain ⟨g0, cap0, hvv, _, _, _⟩ := Kd.S_form HS.out (by omega)
    injection hvv with q1 _ q3
    subst q1 q3
    obtain ⟨ad, A3, c3, hA, e0, _, _, _, _, _⟩ := at_T41 hC kk p0 p1
    obtain rfl := Option.some.inj hA
    rw [add_at, Nat.zero_add] at e0
    have hrd : rd_T41 out kk = out.getD (out.length - 1) z41 := by
     unfold rd_T41
     rw [show kk.toNat = out.length - 1 by omega]
    by_cases h1 : (rd_T41 out kk).f0 = x1
    ·
     have b1 : ((rd_T41 out kk).f0 != x1) = false := bne_eq_false_iff_eq.mpr h1
     have OLD := Aside0.mk (show seqs_runs.fst out x0 x1 = out from if_neg (fun h => h.elim h0 (fun h => h (hrd ▸ h1))))
     have HN := Aside0.mk (show out.length - 1 + 1 = out.length by omega)
     have HKN := Aside0.mk (show kk = ((out.length - 1 : Nat) : Int) by omega)
     clear h0 h1 hkk hrd
     gi_wp2
     exact TAIL.out _ _ ⟨KeepsOthers.refl _, Below.refl _ _, (fun o ho => ho), _, _, out.length - 1, _, _, _, _, _, _, _, _, _, _, _, _, _, _, _, _, _, _, _, _, _, _, _, rfl, HKN.out, by rw [OLD.out, HN.out], by rw [HN.out]; exact HV.out, by rw [OLD.out, HN.out]; exact HS.out⟩
    ·
     have b1 : ((rd_T41 out kk).f0 != x1) = true := bne_iff_ne.mpr h1
     have NEW := Aside0.mk (show seqs_runs.fst out x0 x1 = out ++ [⟨x1, x0, 0, []⟩] from if_pos (.inr (hrd ▸ h1)))
     clear h0 h1 hkk hrd
     gi_upto_region 7 with (fail)
     refine region_inR (by kernel_rfl) (fun _ _ h => h) ?_
     go_wp2_with ((with_reducible refine gate_builtin (b := .append) (xs := #[.tmp 25, .tmp 29]) rfl ?_); at_builtin; refine Kd.S_append k41 (w0 := W) bo rfl (.tmp 25) (.tmp 29) 37 41 (.agg #[(.int .i64 0), (.int .i64 0), (.int .i64 0), (.slice none 0 0)]) 48 rfl Try.underlying37 seqs_runs.info rfl (by decide) (by omega) _ out (⟨x1, x0, 0, []⟩ : S41) [.int .i64 x1, .int .i64 x0, .int .i64 0, .slice none 0 0] (fun k => k ≠ bo ∧ k ≠ bo + 1) (fun _ => False) rfl (by first | (go_simp; done) | (go_simp; rfl)) (k41_mkM _ _ _ _ (Kd.R_nil _ _ _ _ _)) (fun _ hk => hk.elim) HFR.out (Kd.S_mono HS.out (fun k hk => ⟨hk, fun h => h⟩)) (Below.refl _ _) HBS.out HL1.out ?_; intro v_ w_ ho hb hg hat; obtain ⟨g, cap, rfl, _⟩ := Kd.S_form ho (by simp); have hv1 := HV.out.kept hg (Kd.S_away HS.out (fun k hk => hk.1)); have hc1 := hv1.cell; have hf1 := hv1.frozen; have N1 := Aside0.mk ho; have N2 := Aside0.mk hb; have N3 := Aside0.mk hg; have N4 := Aside0.mk hv1; clear ho hb hg hat hv1)
     gi_wp2
     exact TAIL.out _ _ ⟨(KeepsOthers.of_grownBy N3.out (fun j o hj ho => by obtain ⟨cells, hc2⟩ := Kd.S_typed HS.out j hj; rw [hc2] at ho; cases ho; rfl)).trans (KeepsOthers.setCell _ _ _), N2.out.setCell (p := ⟨bo, 0, none⟩) (Nat.le_refl bo) _, (fun o ho => by rw [HP.out] at ho; cases ho; exact blk_far (blk_grown HP.out N3.out (Kd.S_away HS.out (fun k hk => hk.2))) (p := ⟨bo, 0, none⟩) (by show bo + 1 ≠ bo; omega) _), g, cap, out.length, _, _, _, _, _, _, _, _, _, _, _, _, _, _, _, _, _, _, _, _, _, _, _, rfl, by have := HKK.out; omega, by rw [NEW.out, List.length_append]; rfl, N4.out.set _, by rw [NEW.out]; have q := Kd.S_far N1.out (p := ⟨bo, 0, none⟩) (fun k hk => hk.1) (.slice (some ⟨g, 0, none⟩) (out.length + 1) cap); rw [List.length_append] at q; exact q⟩
  case done =>
   rintro D xs W hD rfl ⟨⟨⟨v, hv, hS⟩, hbp⟩, hB⟩ hK
   obtain ⟨A, c, rfl, _, _⟩ := Kd.S_reads hS
   have hc := hv.cell
   have SS := Aside0.mk (Kd.S_grown (Kd.S_bound hS) (grownBy_putObj' W D (.deferred none)) (fun k hk e => by
    obtain ⟨q, _, cells, hc2⟩ := hk.2.2.2
    injection e with e
    rw [e, hK] at hc2
    cases hc2))
   have BB := Aside0.mk hB
   clear hS hbp hB
   gi_wp2
   refine ⟨by simp, .inl ⟨_, _, rfl, run_takeDeferred hK, ?_⟩⟩
   exact ⟨_, results_tmp rfl _ _ _, _, rfl, by rw [hbo]; exact Kd.S_mono SS.out (fun _ _ => trivial), by rw [hbo]; exact BB.out.trans (belowK_b (w := w) (by omega) _ D _ _ (by omega) hK rfl rfl)⟩
  case stop =>
   rintro D c pre W _ _ h _
   exact h.elim
 ·
  rw [if_neg hl] at h
  cases h
end


/-! ### seqs_way: function 18 -/
def seqs_way.f (a0 : Int) (a1 : Int) : Option (Int) := if (Go.bits .and .i64 (mx a0 a1) 1) = 1 then (some 1) else (some 0)
set_option maxHeartbeats 8000000 in
set_option maxRecDepth 100000 in
theorem seqs_way.calls (a0 : Int) (a1 : Int) (r : Int) (w : World) (h : seqs_way.f a0 a1 = some r) :
  Calls Try.prog 18 #[.int .i64 a0, .int .i64 a1] w fun e w' => e = .returned (.int .i64 r) ∧ Below w.heap.size w w' := by
 have HB := Aside0.mk (Below.refl w.heap.size w)
 have H : (if (Go.bits .and .i64 (mx a0 a1) 1) = 1 then (some 1) else (some 0)) = some r := h
 clear h
 obtain ⟨ji3, hji3⟩ : ∃ j_ : Int, (mx a0 a1) = j_ := ⟨_, rfl⟩
 replace H : (if (Go.bits .and .i64 (ji3) 1) = 1 then (some 1) else (some 0)) = some r := by first | (rw [hji3] at H; exact H) | (simp only [hji3] at H ⊢; exact H)
 have hji3_ : (if a0 < a1 then a1 else a0) = ji3 := hji3
 by_cases c4 : (Go.bits .and .i64 (ji3) 1) = 1
 ·
  rw [if_pos c4] at H
  have c4b0 : ((Go.bits .and .i64 (ji3) 1) == 1) = true := beq_iff_eq.mpr c4
  have c4b1 : ((Go.bits .and .i64 (ji3) 1) != 1) = false := bne_eq_false_iff_eq.mpr c4
  clear c4
  obtain rfl := Option.some.inj H
  go_enter Try.func18, Try.ntmps18
  go_wp2
  go_ret
  exact ⟨by first | rfl | (simp [errW_none, errW_some] <;> rfl) | (simp only [← hji3]; first | rfl | (simp [errW_none, errW_some] <;> rfl)) | (simp [*, errW_none, errW_some] <;> rfl), by repeat (first | (with_reducible first | exact HB.out | apply below_alloc | apply pw_below_drewN | apply below_drew1) | exact HB.out)⟩
 ·
  rw [if_neg c4] at H
  have c4b0 : ((Go.bits .and .i64 (ji3) 1) == 1) = false := beq_eq_false_iff_ne.mpr c4
  have c4b1 : ((Go.bits .and .i64 (ji3) 1) != 1) = true := bne_iff_ne.mpr c4
  obtain rfl := Option.some.inj H
  go_enter Try.func18, Try.ntmps18
  go_wp2
  go_ret
  exact ⟨by first | rfl | (simp [errW_none, errW_some] <;> rfl) | (simp only [← hji3]; first | rfl | (simp [errW_none, errW_some] <;> rfl)) | (simp [*, errW_none, errW_some] <;> rfl), by repeat (first | (with_reducible first | exact HB.out | apply below_alloc | apply pw_below_drewN | apply below_drew1) | exact HB.out)⟩

/-! ### seqs_beside: function 19 -/
def seqs_beside.f (l0 : List (S41)) (a1 : Int) (a2 : Int) : Option (Int) := if a1 < 0 then (some a2) else (if a1 ≥ (l0.length : Int) then (some a2) else (if 0 ≤ a1 then (if a1 < (l0.length : Int) then (some ((rd_T41 l0 a1).f0)) else (none)) else (none)))
set_option maxHeartbeats 8000000 in
set_option maxRecDepth 100000 in
theorem seqs_beside.calls (A0 : Option Addr) (c0 : Nat) (l0 : List (S41)) (a1 : Int) (a2 : Int) (r : Int) (w : World) (hr0 : Kd.C k41 w A0 l0.length l0) (hc0 : l0.length ≤ c0) (h : seqs_beside.f l0 a1 a2 = some r) :
  Calls Try.prog 19 #[.slice A0 l0.length c0, .int .i64 a1, .int .i64 a2] w fun e w' => e = .returned (.int .i64 r) ∧ Drawn0 w w' := by
 have HR0 := Aside0.mk hr0
 have HC0 := Aside0.mk hc0
 clear hr0 hc0
 have H : (if a1 < 0 then (some a2) else (if a1 ≥ (l0.length : Int) then (some a2) else (if 0 ≤ a1 then (if a1 < (l0.length : Int) then (some ((rd_T41 l0 a1).f0)) else (none)) else (none)))) = some r := h
 clear h
 by_cases c4 : a1 < 0
 ·
  rw [if_pos c4] at H
  have c4b0 : decide (a1 < 0) = true := decide_eq_true c4
  clear c4
  obtain rfl := Option.some.inj H
  go_enter Try.func19, Try.ntmps19
  go_wp2
  go_ret
  exact ⟨by first | rfl | (simp; done) | (simp [*]; done), by repeat (first | exact Drawn0.refl _ | apply Drawn0.step)⟩
 ·
  rw [if_neg c4] at H
  have c4b0 : decide (a1 < 0) = false := decide_eq_false c4
  clear c4
  by_cases c5 : a1 ≥ (l0.length : Int)
  ·
   rw [if_pos c5] at H
   have c5b0 : decide ((l0.length : Int) ≤ a1) = true := decide_eq_true c5
   clear c5
   obtain rfl := Option.some.inj H
   go_enter Try.func19, Try.ntmps19
   go_wp2
   go_ret
   exact ⟨by first | rfl | (simp; done) | (simp [*]; done), by repeat (first | exact Drawn0.refl _ | apply Drawn0.step)⟩
  ·
   rw [if_neg c5] at H
   have c5b0 : decide ((l0.length : Int) ≤ a1) = false := decide_eq_false c5
   clear c5
   by_cases c6 : 0 ≤ a1
   ·
    rw [if_pos c6] at H
    have c6b0 : decide (0 ≤ a1) = true := decide_eq_true c6
    clear c6
    by_cases c7 : a1 < (l0.length : Int)
    ·
     rw [if_pos c7] at H
     have c7b0 : decide (a1 < (l0.length : Int)) = true := decide_eq_true c7
     clear c7
     obtain rfl := Option.some.inj H
     have p119 : 0 ≤ (a1 : Int) := of_decide_eq_true (by first | (with_reducible assumption) | assumption)
     have q119 : a1 < (l0.length : Int) := of_decide_eq_true (by first | (with_reducible assumption) | assumption)
     obtain ⟨ad119, A119_3, c119_3, e119, hx119_0, hx119_1, hx119_2, hx119_3, hl119_3, hi119_3⟩ := at_T41 HR0.out a1 p119 q119
     cases e119
     have HR119_3 := Aside0.mk hi119_3
     have HC119_3 := Aside0.mk hl119_3
     clear hi119_3 hl119_3
     replace p119 := eq_true p119
     replace q119 := eq_true q119
     go_enter Try.func19, Try.ntmps19
     go_wp2
     go_ret
     exact ⟨by first | rfl | (simp; done) | (simp [*]; done), by repeat (first | exact Drawn0.refl _ | apply Drawn0.step)⟩
    ·
     rw [if_neg c7] at H
     exact absurd H (by simp)
   ·
    rw [if_neg c6] at H
    exact absurd H (by simp)

-- NOT PRINTED: function 48 (seqs_run_48)

-- NOT PRINTED: function 39 (seqs_run_39)

/-! ### seqs_goes: function 20: by hand -/
section
open Go.Proofs.YtdieknpikdepgaaH
/-- The captured row's value at the captured place is asked of a run. -/
theorem seqs_goes.asks (x0 x1 x2 : Int) (A3 : Option Addr) (n3 c3 : Nat) (bm be : Nat) (A : Option Addr) (c : Nat) (m : List Int) (ee : Int) (W : World) (hm : W.heap[bm]? = some (.cells #[.slice A m.length c] 22 (0, 0))) (he : W.heap[be]? = some (.cells #[.int .i64 ee] 3 (0, 0)))
  (hr : Kd.C (Kd.int .i64) W A m.length m) (h0 : 0 ≤ ee) (h1 : ee < (m.length : Int)) :
  Calls Try.prog 40 #[.agg #[.int .i64 x0, .int .i64 x1, .int .i64 x2, .slice A3 n3 c3], .pointer (some ⟨bm, 0, none⟩), .pointer (some ⟨be, 0, none⟩)] W fun e w' => e = .returned (.bool (x1 == rd m ee)) ∧ Below W.heap.size W w' := by
 have HB := Aside0.mk (Below.refl W.heap.size W)
 obtain ⟨ad, rfl, hc⟩ := Kd.at_int hr ee h0 h1
 obtain ⟨W1, hW1⟩ : ∃ W1, W.alloc (.cells #[.int .i64 x0, .int .i64 x1, .int .i64 x2, .slice A3 n3 c3] 41) = W1 := ⟨_, rfl⟩
 have y0 : W1.cell? ⟨bm, 0, none⟩ = some (.slice (some ad) m.length c) := by rw [← hW1]; exact (blk_cell (blk_alloc hm _) 0).trans rfl
 have y1 : W1.cell? ⟨be, 0, none⟩ = some (.int .i64 ee) := by rw [← hW1]; exact (blk_cell (blk_alloc he _) 0).trans rfl
 have y2 : W1.cell? ⟨W.heap.size, 1, none⟩ = some (.int .i64 x1) := by rw [← hW1]; exact (blk_cell (blk_new W _) 1).trans rfl
 have hB1 : Below W.heap.size W W1 := by rw [← hW1]; exact below_alloc HB.out _
 obtain ⟨ad2, e2, y3⟩ := Kd.at_int (Kd.C_below hr hB1) ee h0 h1
 obtain rfl := Option.some.inj e2
 have HB1 := Aside0.mk hB1
 clear hc hm he hr hB1
 go_enter Try.func40, Try.ntmps40
 go_upto_region 1 with (fail)
 clear hW1
 go_quiet (fail)
 all_goals (try go_wp2)
 go_ret
 exact ⟨rfl, pw_below_drewN HB1.out _⟩
/-- The first run that begins at a place; -1, if none does. -/
def seqs_goes.ix (q : Int) : List S41 → Int → Int
 | [], _ => -1
 | c :: r, i => if (c.f1 == q) = true then i else seqs_goes.ix q r (i + 1)
theorem seqs_goes.ix_step (q : Int) (l : List S41) (i : Nat) (hi : i < l.length) : seqs_goes.ix q (l.drop i) i = if ((rd_T41 l (i : Int)).f1 == q) = true then (i : Int) else seqs_goes.ix q (l.drop (i + 1)) ((i + 1 : Nat) : Int) := by
 rw [List.drop_eq_getElem_cons hi]
 have e : rd_T41 l (i : Int) = l[i] := by
  unfold rd_T41
  rw [Int.toNat_natCast, List.getD_eq_getElem?_getD, List.getElem?_eq_getElem hi]
  rfl
 rw [e]
 simp only [seqs_goes.ix]
 norm_cast
set_option maxHeartbeats 1000000 in
set_option maxRecDepth 100000 in
theorem seqs_goes.index (A : Option Addr) (c : Nat) (l : List S41) (bm be : Nat) (Am : Option Addr) (cm : Nat) (m : List Int) (ee q : Int) (w : World) (hr : Kd.C k41 w A l.length l) (hl : l.length < 1000000) (hm : w.heap[bm]? = some (.cells #[.slice Am m.length cm] 22 (0, 0))) (he : w.heap[be]? = some (.cells #[.int .i64 ee] 3 (0, 0)))
  (hrm : Kd.C (Kd.int .i64) w Am m.length m) (g0 : 0 ≤ ee) (g1 : ee < (m.length : Int)) (hq : rd m ee = q) :
  Calls Try.prog 48 #[.slice A l.length c, .func (.func 40) #[] #[.pointer (some ⟨bm, 0, none⟩), .pointer (some ⟨be, 0, none⟩)]] w fun e w' => e = .returned (.int .i64 (seqs_goes.ix q l 0)) ∧ Below w.heap.size w w' := by
 have eg : ∀ args w, (callFunc 40 args).run Try.prog w = .ok (.enter 40 args) w := enters_of Try.func40 (by kernel_rfl) rfl
 have HR := Aside0.mk hr
 have HM := Aside0.mk hm
 have HE := Aside0.mk he
 have HRM := Aside0.mk hrm
 have G0 := Aside0.mk g0
 have G1 := Aside0.mk g1
 have HQ := Aside0.mk hq
 have HB0 := Aside0.mk (Below.refl w.heap.size w)
 generalize hr0 : seqs_goes.ix q l 0 = r
 have R0 := Aside0.mk hr0
 clear hr hr0 hm he hrm g0 g1 hq
 go_enter Try.func48, Try.ntmps48
 go_wp2
 go_loopg [8] l.length (fun kx s8 wr => ∃ i : Nat, s8 = .int .i64 (i : Int) ∧ i ≤ l.length ∧ l.length - i ≤ kx ∧ Aside0 (seqs_goes.ix q (l.drop i) (i : Int) = r) ∧ Aside0 (Below w.heap.size w wr))
 case atStart => exact ⟨0, rfl, Nat.zero_le _, by omega, R0, HB0⟩
 case round =>
  clear HB0
  obtain ⟨i, rfl, hi, hk, HI, HB⟩ := hrel
  by_cases hlt : (i : Int) < (l.length : Int)
  ·
   have hlt2 : i < l.length := by omega
   obtain ⟨ad, A3, c3, e0, h0, h1, h2, h3, _, _⟩ := at_T41 (Kd.C_below HR.out HB.out) (i : Int) (by omega) hlt
   cases e0
   simp only [Int.toNat_natCast] at h0 h1 h2 h3
   have hst := seqs_goes.ix_step q l i hlt2
   rw [HI.out] at hst
   have b1 : decide ((i : Int) < (l.length : Int)) = true := decide_eq_true hlt
   have p0 : (0 ≤ (i : Int)) = True := eq_true (by omega)
   have q0 : ((i : Int) < (l.length : Int)) = True := eq_true hlt
   generalize rd_T41 l (i : Int) = x at h0 h1 h2 h3 hst
   obtain ⟨x0, x1, x2, x3⟩ := x
   dsimp only at h0 h1 h2 h3 hst
   cases hb5 : (x1 == q)
   ·
    rw [hb5] at hst
    simp only [Bool.false_eq_true, if_false] at hst
    have H2 := Aside0.mk hst.symm
    clear hst hlt
    go_wp2_with (go_at_fn 40; refine (seqs_goes.asks x0 x1 x2 A3 x3.length c3 bm be Am cm m ee _ (blk_below HM.out HB.out) (blk_below HE.out HB.out) (Kd.C_below HRM.out HB.out) G0.out G1.out).mono ?_; rintro e w2 ⟨rfl, hb2⟩; rw [HQ.out, hb5]; have n0_ := Aside0.mk (below_step HB.out hb2); clear HB hb2; have HB := n0_; clear n0_)
    go_roundg (l.length - (i + 1))
    case measure => omega
    case rel => exact ⟨i + 1, by rw [show (i : Int) + 1 = ((i + 1 : Nat) : Int) by omega], by omega, Nat.le_refl _, H2, HB⟩
   ·
    rw [hb5] at hst
    simp only [if_true] at hst
    subst hst
    clear hlt
    go_wp2_with (go_at_fn 40; refine (seqs_goes.asks x0 x1 x2 A3 x3.length c3 bm be Am cm m ee _ (blk_below HM.out HB.out) (blk_below HE.out HB.out) (Kd.C_below HRM.out HB.out) G0.out G1.out).mono ?_; rintro e w2 ⟨rfl, hb2⟩; rw [HQ.out, hb5]; have n0_ := Aside0.mk (below_step HB.out hb2); clear HB hb2; have HB := n0_; clear n0_)
    go_ret
    exact ⟨rfl, HB.out⟩
  ·
   have hi2 : i = l.length := by omega
   have b1 : decide ((i : Int) < (l.length : Int)) = false := decide_eq_false hlt
   have hr2 := HI.out
   rw [hi2, List.drop_length] at hr2
   obtain rfl : -1 = r := hr2
   clear hlt
   go_wp2
   go_ret
   exact ⟨rfl, HB.out⟩
theorem seqs_goes.contains (A : Option Addr) (c : Nat) (l : List S41) (bm be : Nat) (Am : Option Addr) (cm : Nat) (m : List Int) (ee q : Int) (w : World) (hr : Kd.C k41 w A l.length l) (hl : l.length < 1000000) (hm : w.heap[bm]? = some (.cells #[.slice Am m.length cm] 22 (0, 0))) (he : w.heap[be]? = some (.cells #[.int .i64 ee] 3 (0, 0)))
  (hrm : Kd.C (Kd.int .i64) w Am m.length m) (g0 : 0 ≤ ee) (g1 : ee < (m.length : Int)) (hq : rd m ee = q) :
  Calls Try.prog 39 #[.slice A l.length c, .func (.func 40) #[] #[.pointer (some ⟨bm, 0, none⟩), .pointer (some ⟨be, 0, none⟩)]] w fun e w' => e = .returned (.bool (decide (0 ≤ seqs_goes.ix q l 0))) ∧ Below w.heap.size w w' := by
 have HH := Aside0.mk (seqs_goes.index A c l bm be Am cm m ee q w hr hl hm he hrm g0 g1 hq)
 clear hr hl hm he hrm g0 g1 hq
 go_enter Try.func39, Try.ntmps39
 go_wp2_with (go_at_call 48; refine HH.out.mono ?_; rintro e w2 ⟨rfl, hb2⟩; have HB := Aside0.mk hb2; clear hb2)
 go_ret
 exact ⟨rfl, HB.out⟩
theorem seqs_goes.info : (Try.prog.info? 41).map (fun i => (i.zero, i.size, i.bytes)) = some (some (.agg #[(.int .i64 0), (.int .i64 0), (.int .i64 0), (.slice none 0 0)]), 4, 48) := by kernel_rfl
def seqs_goes.ini (x : Int) : Bool := x == 19 || (x == 20 || x == 21)
def seqs_goes.f (l0 : List S41) (a1 : Int) (l2 l3 : List Int) : Option (Int × Bool) :=
 if 0 ≤ a1 ∧ a1 < (l0.length : Int) ∧ l0.length < 1000000 ∧ 0 ≤ (rd_T41 l0 a1).f2 ∧ (rd_T41 l0 a1).f2 < (l2.length : Int) then
  (if seqs_goes.ini (rd l2 (rd_T41 l0 a1).f2) = true then (if (rd_T41 l0 a1).f2 < (l3.length : Int) then some (rd l3 (rd_T41 l0 a1).f2, decide (0 ≤ seqs_goes.ix (rd l3 (rd_T41 l0 a1).f2) (l0.drop (a1.toNat + 1)) 0)) else none) else some (0, false)) else none
set_option maxHeartbeats 1000000 in
set_option maxRecDepth 100000 in
theorem seqs_goes.calls (A0 : Option Addr) (c0 : Nat) (l0 : List S41) (a1 : Int) (A2 : Option Addr) (c2 : Nat) (l2 : List Int) (A3 : Option Addr) (c3 : Nat) (l3 : List Int) (r1 : Int) (r2 : Bool) (w : World) (hr0 : Kd.C k41 w A0 l0.length l0) (hc0 : l0.length ≤ c0) (hr2 : Kd.C (Kd.int .i64) w A2 l2.length l2) (hc2 : l2.length ≤ c2) (hr3 : Kd.C (Kd.int .i64) w A3 l3.length l3) (hc3 : l3.length ≤ c3) (h : seqs_goes.f l0 a1 l2 l3 = some (r1, r2)) :
  Calls Try.prog 20 #[.slice A0 l0.length c0, .int .i64 a1, .slice A2 l2.length c2, .slice A3 l3.length c3] w fun e w' => e = .returned (.tuple #[.int .i64 r1, .bool r2]) ∧ Below w.heap.size w w' := by
 unfold seqs_goes.f at h
 split at h
 rotate_left
 ·
  cases h
 rename_i hc
 obtain ⟨p0, p1, p2, q0, q1⟩ := hc
 have HR0 := Aside0.mk hr0
 have HR3 := Aside0.mk hr3
 have HC0 := Aside0.mk hc0
 obtain ⟨ad0, A9, c9, e0, h0, h1, h2, h3, _, _⟩ := at_T41 (Kd.C_below hr0 (below_alloc (Below.refl w.heap.size w) (.cells #[.slice A3 l3.length c3] 22))) a1 p0 p1
 subst e0
 generalize hee : (rd_T41 l0 a1).f2 = ee at h h2 q0 q1
 clear h0 h1 h3
 have HB := Aside0.mk (Below.refl w.heap.size w)
 by_cases hi : seqs_goes.ini (rd l2 ee) = true
 ·
  rw [if_pos hi] at h
  split at h
  rotate_left
  ·
   cases h
  rename_i g1
  simp only [Option.some.injEq, Prod.mk.injEq] at h
  obtain ⟨rfl, rfl⟩ := h
  have hb3 : (rd l2 ee == 19) = true ∨ ((rd l2 ee == 19) = false ∧ (rd l2 ee == 20) = true) ∨ ((rd l2 ee == 19) = false ∧ (rd l2 ee == 20) = false ∧ (rd l2 ee == 21) = true) := by
   unfold seqs_goes.ini at hi; revert hi
   cases (rd l2 ee == 19) <;> cases (rd l2 ee == 20) <;> cases (rd l2 ee == 21) <;> simp
  clear hi
  obtain ⟨W5, hW5⟩ : ∃ W5, ((w.alloc (.cells #[.slice A3 l3.length c3] 22)).alloc (.cells #[.int .i64 ee] 3)) = W5 := ⟨_, rfl⟩
  have hB5 : Below w.heap.size w W5 := by rw [← hW5]; exact below_alloc (below_alloc (Below.refl _ _) _) _
  have bm : W5.heap[w.heap.size]? = some (.cells #[.slice A3 l3.length c3] 22 (0, 0)) := by rw [← hW5]; exact blk_alloc (blk_new _ _) _
  have be : W5.heap[w.heap.size + 1]? = some (.cells #[.int .i64 ee] 3 (0, 0)) := by rw [← hW5, ← World.size_alloc w (.cells #[.slice A3 l3.length c3] 22)]; exact blk_new _ _
  have y0 : W5.cell? ⟨w.heap.size, 0, none⟩ = some (.slice A3 l3.length c3) := (blk_cell bm 0).trans rfl
  have y1 : W5.cell? ⟨w.heap.size + 1, 0, none⟩ = some (.int .i64 ee) := (blk_cell be 0).trans rfl
  obtain ⟨ad2, e2, y2⟩ := Kd.at_int (Kd.C_below hr2 hB5) ee q0 q1
  obtain rfl := e2
  obtain ⟨ad3, e3, y3⟩ := Kd.at_int (Kd.C_below hr3 hB5) ee q0 g1
  obtain rfl := e3
  have R5 := Aside0.mk (Kd.C_below hr0 hB5)
  have M5 := Aside0.mk (Kd.C_below hr3 hB5)
  have HB5 := Aside0.mk hB5
  obtain ⟨i0, hi0, _, hsz, _⟩ := info_parts seqs_goes.info
  obtain ⟨l7, hl7⟩ : ∃ l7, l0.drop (a1.toNat + 1) = l7 := ⟨_, rfl⟩
  obtain ⟨A7, c7, hcut, h7⟩ : ∃ A7 c7, (∀ W : World, (Instr.sliceAt 37 (.slice (some ad0) l0.length c0) (some (.int .i64 (wrap64 (a1 + 1)))) none none).run Try.prog W = .ok (.slice A7 l7.length c7) W) ∧ Kd.C k41 W5 A7 l7.length l7 := by
   have h1 := cut_from (P := Try.prog) 37 41 .i64 Try.underlying37 hi0 4 hsz (some ad0) l0.length c0 (a1 + 1) (by omega) (by omega)
   have h2 := Kd.C_drop (m := a1.toNat + 1) (Kd.C_below hr0 hB5) (by omega) hc0
   rw [hl7] at h2
   have e1 : (a1 + 1).toNat = a1.toNat + 1 := by omega
   have e2 : l0.length - (a1.toNat + 1) = l7.length := by rw [← hl7, List.length_drop]
   rw [e1, e2] at h1
   exact ⟨_, _, by rw [show wrap64 (a1 + 1) = a1 + 1 by unfold wrap64; omega]; exact fun W => (run_sliceAt_slice W 37 _ _ _ _ (by rw [show (Try.prog).elem 37 = 41 from by kernel_rfl]; exact Try.underlying37)).trans (h1 W), h2⟩
  have H7 := Aside0.mk h7
  have HL7 := Aside0.mk (show l7.length < 1000000 by rw [← hl7, List.length_drop]; omega)
  rw [hl7]
  clear h7 hl7 hsz hi0
  have BM := Aside0.mk bm
  have BE := Aside0.mk be
  clear hB5 bm be hr0 hr2 hr3
  go_enter Try.func20, Try.ntmps20
  go_upto_region 2 with (fail)
  try rw [hW5]
  clear hW5 HB HR0 HR3
  rcases hb3 with hi1 | ⟨hi1, hi2⟩ | ⟨hi1, hi2, hi3⟩
  all_goals
   go_upto_region 6 with (fail)
   refine start_ (n := 12) (S := fun w' => w'.cell? ⟨w.heap.size, 0, none⟩ = some (.slice (some ad3) l3.length c3) ∧ w'.cell? ⟨w.heap.size + 1, 0, none⟩ = some (.int .i64 ee) ∧ w'.cell? (ad3.add ee.toNat) = some (.int .i64 (rd l3 ee))) (ds := []) #[false, false, false, false, false, false, false, false, false, false, false, false] (by kernel_rfl) rfl rfl ⟨y0, y1, y3⟩ (fun hHeld => ?_)
   have n0_ := Aside0.mk (below_drew1 HB5.out)
   have n1_ := Aside0.mk (blk_drew BM.out)
   have n2_ := Aside0.mk (blk_drew BE.out)
   have n3_ := Aside0.mk (Kd.C_drew M5.out)
   have n4_ := Aside0.mk (Kd.C_drew H7.out)
   clear HB5 BM BE M5 H7 R5
   have HB5 := n0_
   have BM := n1_
   have BE := n2_
   have M5 := n3_
   have H7 := n4_
   clear n0_ n1_ n2_ n3_ n4_ y0 y1 y2 y3
   generalize W5.drew = W6 at HB5 BM BE M5 H7 hHeld ⊢
   refine pure_ (i := 4) (N := some 28) (v := ?_) (a' := ?_) #[false, false, false, false, true, false, false, false, false, false, false, false] rfl rfl (by kernel_rfl) (fun _ _ _ h => h) (Or.inl ⟨by rfl, ?_⟩) ?_ ?_
   rotate_left
   ·
    intro w'
    go_simp
    with_reducible rfl
   rotate_left
   ·
    simp only [Act.put, List.setIfInBounds_toArray, List.set_cons_zero, List.set_cons_succ, i64_w, i32_w]
    rfl
   refine pure_ (i := 5) (N := some 29) (v := ?_) (a' := ?_) #[false, false, false, false, true, true, false, false, false, false, false, false] rfl rfl (by kernel_rfl) (fun _ _ _ h => h) (Or.inl ⟨by rfl, ?_⟩) ?_ ?_
   rotate_left
   ·
    intro w'
    go_simp
    with_reducible rfl
   rotate_left
   ·
    simp only [Act.put, List.setIfInBounds_toArray, List.set_cons_zero, List.set_cons_succ, i64_w, i32_w]
    rfl
   refine pure_ (i := 6) (N := some 30) (v := ?_) (a' := ?_) #[false, false, false, false, true, true, true, false, false, false, false, false] rfl rfl (by kernel_rfl) (fun _ _ _ h => h) (Or.inl ⟨by rfl, ?_⟩) ?_ ?_
   rotate_left
   ·
    intro w'
    go_simp
    with_reducible rfl
   rotate_left
   ·
    simp only [Act.put, List.setIfInBounds_toArray, List.set_cons_zero, List.set_cons_succ, i64_w, i32_w]
    rfl
   refine pure_ (i := 7) (N := some 31) (v := ?_) (a' := ?_) #[false, false, false, false, true, true, true, true, false, false, false, false] rfl rfl (by kernel_rfl) (fun _ _ _ h => h) (Or.inl ⟨by rfl, ?_⟩) ?_ ?_
   rotate_left
   ·
    intro w'
    go_simp
    with_reducible rfl
   rotate_left
   ·
    simp only [Act.put, List.setIfInBounds_toArray, List.set_cons_zero, List.set_cons_succ, i64_w, i32_w]
    rfl
   refine pure_ (i := 8) (N := some 32) (v := ?_) (a' := ?_) #[false, false, false, false, true, true, true, true, true, false, false, false] rfl rfl (by kernel_rfl) (fun _ _ _ h => h) (Or.inl ⟨by rfl, ?_⟩) ?_ ?_
   rotate_left
   ·
    intro w'
    go_simp
    with_reducible rfl
   rotate_left
   ·
    simp only [Act.put, List.setIfInBounds_toArray, List.set_cons_zero, List.set_cons_succ, i64_w, i32_w]
    rfl
   refine take_ (i := 0) (N := some 24) (v := ?_) (a' := ?_) #[true, false, false, false, true, true, true, true, true, false, false, false] rfl rfl (by kernel_rfl) (fun _ _ _ h => h) (Or.inl ⟨by rfl, ?_⟩) hHeld ?_ ?_
   rotate_left
   ·
    rintro w' ⟨s0, s1, s2⟩
    go_simp
    with_reducible rfl
   rotate_left
   ·
    simp only [Act.put, List.setIfInBounds_toArray, List.set_cons_zero, List.set_cons_succ, i64_w, i32_w]
    rfl
   refine take_ (i := 1) (N := some 25) (v := ?_) (a' := ?_) #[true, true, false, false, true, true, true, true, true, false, false, false] rfl rfl (by kernel_rfl) (fun _ _ _ h => h) (Or.inl ⟨by rfl, ?_⟩) hHeld ?_ ?_
   rotate_left
   ·
    rintro w' ⟨s0, s1, s2⟩
    go_simp
    with_reducible rfl
   rotate_left
   ·
    simp only [Act.put, List.setIfInBounds_toArray, List.set_cons_zero, List.set_cons_succ, i64_w, i32_w]
    rfl
   refine pure_ (i := 2) (N := some 26) (v := ?_) (a' := ?_) #[true, true, true, false, true, true, true, true, true, false, false, false] rfl rfl (by kernel_rfl) (fun _ _ _ h => h) (Or.inl ⟨by rfl, ?_⟩) ?_ ?_
   rotate_left
   ·
    intro w'
    go_simp
    with_reducible rfl
   rotate_left
   ·
    simp only [Act.put, List.setIfInBounds_toArray, List.set_cons_zero, List.set_cons_succ, i64_w, i32_w]
    rfl
   refine take_ (i := 3) (N := some 27) (v := ?_) (a' := ?_) #[true, true, true, true, true, true, true, true, true, false, false, false] rfl rfl (by kernel_rfl) (fun _ _ _ h => h) (Or.inl ⟨by rfl, ?_⟩) hHeld ?_ ?_
   rotate_left
   ·
    rintro w' ⟨s0, s1, s2⟩
    go_simp
    with_reducible rfl
   rotate_left
   ·
    simp only [Act.put, List.setIfInBounds_toArray, List.set_cons_zero, List.set_cons_succ, i64_w, i32_w]
    rfl
   refine one_ (i := 9) (N := some 33) #[true, true, true, true, true, true, true, true, true, true, false, false] rfl rfl (by kernel_rfl) (by decide) (fun K hK => ?_)
   refine goes_ Try.func39 (by kernel_rfl) rfl #[.slice A7 l7.length c7, .func (.func 40) #[] #[.pointer (some ⟨w.heap.size, 0, none⟩), .pointer (some ⟨w.heap.size + 1, 0, none⟩)]] (by rfl) rfl rfl (by simp only [List.map_toArray, List.map_cons, List.map_nil]; rfl) ?_
   with_reducible refine (seqs_goes.contains A7 c7 l7 w.heap.size (w.heap.size + 1) (some ad3) c3 l3 ee (rd l3 ee) _ H7.out HL7.out BM.out BE.out M5.out q0 g1 rfl).mono ?_
   rintro e w6 ⟨rfl, hb6⟩
   refine ⟨_, rfl, ?_⟩
   have n0_ := Aside0.mk (below_step HB5.out hb6)
   have n1_ := Aside0.mk (blk_below BM.out hb6)
   have n2_ := Aside0.mk (blk_below BE.out hb6)
   obtain ⟨ad9, e9, y9⟩ := Kd.at_int (Kd.C_below M5.out hb6) ee q0 g1
   obtain rfl := Option.some.inj e9
   clear hcut
   refine hK.out _ _ ⟨(blk_cell n1_.out 0).trans rfl, (blk_cell n2_.out 0).trans rfl, y9⟩ (fun hHeld => ?_)
   clear hK K
   refine norm_ (a' := ?_) ?_ ?_
   rotate_left
   ·
    show Act.put _ (some 33) _ = _
    simp only [Act.put, List.setIfInBounds_toArray, List.set_cons_zero, List.set_cons_succ, i64_w, i32_w]
    rfl
   refine pure_ (i := 10) (N := some 8) (v := ?_) (a' := ?_) #[true, true, true, true, true, true, true, true, true, true, true, false] rfl rfl (by kernel_rfl) (fun _ _ _ h => h) (Or.inl ⟨by rfl, ?_⟩) ?_ ?_
   rotate_left
   ·
    intro w'
    go_simp
    with_reducible rfl
   rotate_left
   ·
    simp only [Act.put, List.setIfInBounds_toArray, List.set_cons_zero, List.set_cons_succ, i64_w, i32_w]
    rfl
   refine pure_ (i := 11) (N := some 9) (v := ?_) (a' := ?_) #[true, true, true, true, true, true, true, true, true, true, true, true] rfl rfl (by kernel_rfl) (fun _ _ _ h => h) (Or.inl ⟨by rfl, ?_⟩) ?_ ?_
   rotate_left
   ·
    intro w'
    go_simp
    with_reducible rfl
   rotate_left
   ·
    simp only [Act.put, List.setIfInBounds_toArray, List.set_cons_zero, List.set_cons_succ, i64_w, i32_w]
    rfl
   refine done_ (by kernel_rfl) ?_
   go_wp2
   go_ret2
   exact ⟨rfl, n0_.out⟩
 ·
  rw [if_neg hi] at h
  simp only [Option.some.injEq, Prod.mk.injEq] at h
  obtain ⟨rfl, rfl⟩ := h
  have hi1 : (rd l2 ee == 19) = false := by unfold seqs_goes.ini at hi; simp at hi ⊢; omega
  have hi2 : (rd l2 ee == 20) = false := by unfold seqs_goes.ini at hi; simp at hi ⊢; omega
  have hi3 : (rd l2 ee == 21) = false := by unfold seqs_goes.ini at hi; simp at hi ⊢; omega
  go_enter Try.func20, Try.ntmps20
  go_upto_region 2 with (fail)
  obtain ⟨W5, hW5⟩ : ∃ W5, ((w.alloc (.cells #[.slice A3 l3.length c3] 22)).alloc (.cells #[.int .i64 ee] 3)) = W5 := ⟨_, rfl⟩
  have hB5 : Below w.heap.size w W5 := by rw [← hW5]; exact below_alloc (below_alloc (Below.refl _ _) _) _
  have y1 : W5.cell? ⟨w.heap.size + 1, 0, none⟩ = some (.int .i64 ee) := by rw [← hW5, ← World.size_alloc w (.cells #[.slice A3 l3.length c3] 22)]; exact (blk_cell (blk_new _ _) 0).trans rfl
  obtain ⟨ad2, e2, y2⟩ := Kd.at_int (Kd.C_below hr2 hB5) ee q0 q1
  obtain rfl := e2
  have HB5 := Aside0.mk hB5
  rw [hW5]
  clear hW5 hB5
  go_wp2
  go_ret2
  exact ⟨rfl, HB5.out⟩
end


/-! ### seqs_behind: function 21 -/
def seqs_behind.f (l0 : List (S41)) (a1 : Int) (a2 : Int) (l3 : List Int) (l4 : List Int) : Option (Int) := if 0 ≤ a1 then (if a1 < (l0.length : Int) then (if 0 ≤ ((rd_T41 l0 a1).f2) then (if ((rd_T41 l0 a1).f2) < (l4.length : Int) then (if (rd l4 ((rd_T41 l0 a1).f2)) = (l3.length : Int) then (some a2) else ((seqs_beside.f l0 (wrap64 (a1 + 1)) a2).bind fun t122 => (some t122))) else (none)) else (none)) else (none)) else (none)
set_option maxHeartbeats 8000000 in
set_option maxRecDepth 100000 in
theorem seqs_behind.calls (A0 : Option Addr) (c0 : Nat) (l0 : List (S41)) (a1 : Int) (a2 : Int) (A3 : Option Addr) (c3 : Nat) (l3 : List Int) (A4 : Option Addr) (c4 : Nat) (l4 : List Int) (r : Int) (w : World) (hr0 : Kd.C k41 w A0 l0.length l0) (hc0 : l0.length ≤ c0) (hr3 : Kd.C (Kd.int .i64) w A3 l3.length l3) (hc3 : l3.length ≤ c3) (hr4 : Kd.C (Kd.int .i64) w A4 l4.length l4) (hc4 : l4.length ≤ c4) (h : seqs_behind.f l0 a1 a2 l3 l4 = some r) :
  Calls Try.prog 21 #[.slice A0 l0.length c0, .int .i64 a1, .int .i64 a2, .slice A3 l3.length c3, .slice A4 l4.length c4] w fun e w' => e = .returned (.int .i64 r) ∧ Drawn0 w w' := by
 have HR0 := Aside0.mk hr0
 have HC0 := Aside0.mk hc0
 clear hr0 hc0
 have HR3 := Aside0.mk hr3
 have HC3 := Aside0.mk hc3
 clear hr3 hc3
 have HR4 := Aside0.mk hr4
 have HC4 := Aside0.mk hc4
 clear hr4 hc4
 have H : (if 0 ≤ a1 then (if a1 < (l0.length : Int) then (if 0 ≤ ((rd_T41 l0 a1).f2) then (if ((rd_T41 l0 a1).f2) < (l4.length : Int) then (if (rd l4 ((rd_T41 l0 a1).f2)) = (l3.length : Int) then (some a2) else ((seqs_beside.f l0 (wrap64 (a1 + 1)) a2).bind fun t122 => (some t122))) else (none)) else (none)) else (none)) else (none)) = some r := h
 clear h
 by_cases c6 : 0 ≤ a1
 ·
  rw [if_pos c6] at H
  have c6b0 : decide (0 ≤ a1) = true := decide_eq_true c6
  clear c6
  by_cases c7 : a1 < (l0.length : Int)
  ·
   rw [if_pos c7] at H
   have c7b0 : decide (a1 < (l0.length : Int)) = true := decide_eq_true c7
   clear c7
   by_cases c8 : 0 ≤ ((rd_T41 l0 a1).f2)
   ·
    rw [if_pos c8] at H
    have c8b0 : decide (0 ≤ ((rd_T41 l0 a1).f2)) = true := decide_eq_true c8
    clear c8
    by_cases c9 : ((rd_T41 l0 a1).f2) < (l4.length : Int)
    ·
     rw [if_pos c9] at H
     have c9b0 : decide (((rd_T41 l0 a1).f2) < (l4.length : Int)) = true := decide_eq_true c9
     clear c9
     by_cases c10 : (rd l4 ((rd_T41 l0 a1).f2)) = (l3.length : Int)
     ·
      rw [if_pos c10] at H
      have c10b0 : ((rd l4 ((rd_T41 l0 a1).f2)) == (l3.length : Int)) = true := beq_iff_eq.mpr c10
      have c10b1 : ((rd l4 ((rd_T41 l0 a1).f2)) != (l3.length : Int)) = false := bne_eq_false_iff_eq.mpr c10
      clear c10
      obtain rfl := Option.some.inj H
      have p120 : 0 ≤ (a1 : Int) := of_decide_eq_true (by first | (with_reducible assumption) | assumption)
      have q120 : a1 < (l0.length : Int) := of_decide_eq_true (by first | (with_reducible assumption) | assumption)
      obtain ⟨ad120, A120_3, c120_3, e120, hx120_0, hx120_1, hx120_2, hx120_3, hl120_3, hi120_3⟩ := at_T41 HR0.out a1 p120 q120
      cases e120
      have HR120_3 := Aside0.mk hi120_3
      have HC120_3 := Aside0.mk hl120_3
      clear hi120_3 hl120_3
      replace p120 := eq_true p120
      replace q120 := eq_true q120
      have p121 : 0 ≤ (((rd_T41 l0 a1).f2) : Int) := of_decide_eq_true (by first | (with_reducible assumption) | assumption)
      have q121 : ((rd_T41 l0 a1).f2) < (l4.length : Int) := of_decide_eq_true (by first | (with_reducible assumption) | assumption)
      obtain ⟨ad121, e121, hx121_0⟩ := Kd.at_int HR4.out ((rd_T41 l0 a1).f2) p121 q121
      cases e121
      replace p121 := eq_true p121
      replace q121 := eq_true q121
      go_enter Try.func21, Try.ntmps21
      go_wp2
      go_ret
      exact ⟨by first | rfl | (simp; done) | (simp [*]; done), by repeat (first | exact Drawn0.refl _ | apply Drawn0.step)⟩
     ·
      rw [if_neg c10] at H
      have c10b0 : ((rd l4 ((rd_T41 l0 a1).f2)) == (l3.length : Int)) = false := beq_eq_false_iff_ne.mpr c10
      have c10b1 : ((rd l4 ((rd_T41 l0 a1).f2)) != (l3.length : Int)) = true := bne_iff_ne.mpr c10
      replace H := Option.bind_eq_some_iff.mp H
      obtain ⟨t122, A110, H⟩ := H
      replace H : (some t122) = some r := H
      have A11 := Aside0.mk A110
      clear A110
      obtain rfl := Option.some.inj H
      have p120 : 0 ≤ (a1 : Int) := of_decide_eq_true (by first | (with_reducible assumption) | assumption)
      have q120 : a1 < (l0.length : Int) := of_decide_eq_true (by first | (with_reducible assumption) | assumption)
      obtain ⟨ad120, A120_3, c120_3, e120, hx120_0, hx120_1, hx120_2, hx120_3, hl120_3, hi120_3⟩ := at_T41 HR0.out a1 p120 q120
      cases e120
      have HR120_3 := Aside0.mk hi120_3
      have HC120_3 := Aside0.mk hl120_3
      clear hi120_3 hl120_3
      replace p120 := eq_true p120
      replace q120 := eq_true q120
      have p121 : 0 ≤ (((rd_T41 l0 a1).f2) : Int) := of_decide_eq_true (by first | (with_reducible assumption) | assumption)
      have q121 : ((rd_T41 l0 a1).f2) < (l4.length : Int) := of_decide_eq_true (by first | (with_reducible assumption) | assumption)
      obtain ⟨ad121, e121, hx121_0⟩ := Kd.at_int HR4.out ((rd_T41 l0 a1).f2) p121 q121
      cases e121
      replace p121 := eq_true p121
      replace q121 := eq_true q121
      go_enter Try.func21, Try.ntmps21
      go_wp2_with (first | ((with_reducible refine gate_callee (f := 19) rfl ?_); refine goesL_ (some 27) rfl rfl Try.func19 (by kernel_rfl) rfl #[.slice (some ad120) l0.length c0, .int .i64 (wrap64 (a1 + 1)), .int .i64 a2] rfl (by (try simp only [List.map_toArray, List.map_cons, List.map_nil]); first | done | rfl | (simp only [List.length_drop, List.length_take]; rfl)) ?_; (with_reducible refine (seqs_beside.calls _ _ l0 (wrap64 (a1 + 1)) a2 t122 _ ?side1 ?side2 A11.out).mono ?_); (case side1 => repeat (first | exact HR0.out | (with_reducible refine Kd.C_alloc ?_ _) | (with_reducible refine Kd.C_drewN ?_ _) | (with_reducible refine Kd.C_drew ?_))); (case side2 => exact HC0.out); rintro e w' ⟨rfl, ⟨nd, rfl⟩⟩; refine ⟨_, rfl, ?_⟩))
      go_ret
      exact ⟨by first | rfl | (simp; done) | (simp [*]; done), by repeat (first | exact Drawn0.refl _ | apply Drawn0.step)⟩
    ·
     rw [if_neg c9] at H
     exact absurd H (by simp)
   ·
    rw [if_neg c8] at H
    exact absurd H (by simp)
  ·
   rw [if_neg c7] at H
   exact absurd H (by simp)
 ·
  rw [if_neg c6] at H
  exact absurd H (by simp)

end Go.Proofs.Ytdieknpikdepgaa.PC12
