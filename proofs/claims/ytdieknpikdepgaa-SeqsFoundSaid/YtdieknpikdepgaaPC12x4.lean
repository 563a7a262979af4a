/- For the laws of the group C12: the Lean functions that the Go functions compute, and proofs that they do. Written by wip/hprint.py of this repo over the kit's printer; nothing here is trusted: Lean checks it. -/
import Derived.Test.YtdieknpikdepgaaPC12x0
import Derived.Test.YtdieknpikdepgaaPC12x1
import Derived.Test.YtdieknpikdepgaaPC12x2
import Derived.Test.YtdieknpikdepgaaPC12x3
namespace Go.Proofs.Ytdieknpikdepgaa.PC12
open Go.RowKit Go.Proofs.YtdieknpikdepgaaW.PrintWords Go.Proofs.YtdieknpikdepgaaW.PrintLast Go.Proofs.YtdieknpikdepgaaW.PrintMore
attribute [local go_sem] max2_int min2_int max_two min_two max_three min_three max_four min_four   -- for this text's walks alone
set_option linter.unusedVariables false
set_option linter.unusedSimpArgs false

/-! ### seqs_Sequences: function 8: by hand -/
section
open Go.Proofs.YtdieknpikdepgaaH Go.Maps
theorem seqs_Sequences.key : Keyed Try.prog 3 := int_keyed Try.underlying3
theorem seqs_Sequences.zero (w : World) : (zeroValue 3).run Try.prog w = .ok (.int .i64 0) w := by kernel_rfl
/-- What stands at a place: what was laid there last. -/
def seqs_Sequences.lk (op : List (Int × Int)) (q : Int) : Option Int := (op.find? (fun p => p.1 == q)).map (·.2)
theorem seqs_Sequences.lk_cons (a k q : Int) (op : List (Int × Int)) : seqs_Sequences.lk ((a, k) :: op) q = if a = q then some k else seqs_Sequences.lk op q := by
 unfold seqs_Sequences.lk
 rw [List.find?_cons]
 by_cases h : a = q
 ·
  simp [h]
 ·
  have : (a == q) = false := beq_eq_false_iff_ne.mpr h
  simp [h, this]
/-- The block is a map that holds what was laid. -/
def seqs_Sequences.Mp (w : World) (b : Nat) (op : List (Int × Int)) : Prop :=
 ∃ D : DataW Unit, w.ownsMap Try.prog 3 (plainElem Try.prog 3) b op.length D ∧ ∀ q : Int, Maps.has D (.int .i64 q) = (seqs_Sequences.lk op q).isSome ∧ ∀ k, seqs_Sequences.lk op q = some k → D.atKey (.int .i64 q) (.lit (.int .i64 0)) = .lit (.int .i64 k)
theorem seqs_Sequences.Mp_made (w : World) : seqs_Sequences.Mp (w.alloc (.map #[] 0)) w.heap.size [] :=
 ⟨.map [], World.ownsMap_made _ _ _ _, fun q => ⟨rfl, fun k h => by simp [seqs_Sequences.lk] at h⟩⟩
theorem seqs_Sequences.Mp_lt {w : World} {b : Nat} {op : List (Int × Int)} (h : seqs_Sequences.Mp w b op) : b < w.heap.size := by
 obtain ⟨D, h1, _⟩ := h
 exact h1.lt
theorem seqs_Sequences.Mp_kept {w w' : World} {b : Nat} {op : List (Int × Int)} {row : Option Nat} (h : seqs_Sequences.Mp w b op) (hg : w.grownBy w' row) (hne : some b ≠ row) : seqs_Sequences.Mp w' b op := by
 obtain ⟨D, h1, h2⟩ := h
 exact ⟨D, h1.kept hg hne, h2⟩
theorem seqs_Sequences.Mp_block {w w' : World} {b : Nat} {op : List (Int × Int)} (h : seqs_Sequences.Mp w b op) (hb : w'.heap[b]? = w.heap[b]?) : seqs_Sequences.Mp w' b op := by
 obtain ⟨D, ⟨es, clock, h1, h3⟩, h2⟩ := h
 exact ⟨D, ⟨es, clock, by rw [hb]; exact h1, h3⟩, h2⟩
theorem seqs_Sequences.Mp_below {w w' : World} {b : Nat} {op : List (Int × Int)} (h : seqs_Sequences.Mp w b op) (hb : Below w.heap.size w w') : seqs_Sequences.Mp w' b op := seqs_Sequences.Mp_block h (hb.block b (seqs_Sequences.Mp_lt h))
theorem seqs_Sequences.Mp_set {w : World} {b : Nat} {op : List (Int × Int)} (h : seqs_Sequences.Mp w b op) {p : Addr} (hp : b ≠ p.block) (u : Value) : seqs_Sequences.Mp (w.setCell p u) b op := seqs_Sequences.Mp_block h (Below.heap_setCell w p u b hp)
theorem seqs_Sequences.wf {q : Int} (h0 : -9223372036854775808 ≤ q) (h1 : q ≤ 9223372036854775807) : (Lit.int .i64 q).wf = true := by
 have := wrap64_wf q
 rwa [show wrap64 q = q by unfold wrap64; omega] at this
theorem seqs_Sequences.Mp_look {w : World} {b : Nat} {op : List (Int × Int)} (h : seqs_Sequences.Mp w b op) (q : Int) (h0 : -9223372036854775808 ≤ q) (h1 : q ≤ 9223372036854775807) :
  ∃ c, (Instr.lookup 39 (.map (some b)) (.int .i64 q) true).run Try.prog w = .ok (.tuple #[.int .i64 c, .bool (seqs_Sequences.lk op q).isSome]) w ∧ ∀ k, seqs_Sequences.lk op q = some k → c = k := by
 obtain ⟨D, h1', h2⟩ := h
 have hw : (Lit.int .i64 q).wf = true := seqs_Sequences.wf h0 h1
 obtain ⟨v, ps, hrun, hv⟩ := h1'.look_ok seqs_Sequences.key Try.underlying39 (seqs_Sequences.zero w) (plainElem_int Try.underlying3 (by decide)) (keyOf_int_mk Try.underlying3 hw)
 obtain ⟨c, rfl, hc, _⟩ := plainElem_int_inv Try.underlying3 hv
 simp only [Prod.mk.injEq] at hc
 refine ⟨c, by rw [hrun, (h2 q).1], fun k hk => ?_⟩
 have := (h2 q).2 k hk
 rw [this] at hc
 have hc1 := hc.1
 injection hc1 with hc1
 injection hc1 with _ hc1
 exact hc1.symm
theorem seqs_Sequences.Mp_put {w : World} {b : Nat} {op : List (Int × Int)} (h : seqs_Sequences.Mp w b op) (q k : Int) (h0 : -9223372036854775808 ≤ q) (h1 : q ≤ 9223372036854775807) (k0 : 0 ≤ k) (k1 : k < 1000000) (hl : op.length < 1000000) :
  ∃ w', (Instr.mapUpdate 39 (.map (some b)) (.int .i64 q) (.int .i64 k)).run Try.prog w = .ok () w' ∧ seqs_Sequences.Mp w' b ((q, k) :: op) ∧ w.grownBy w' (some b) := by
 obtain ⟨D, h1', h2⟩ := h
 have hw : (Lit.int .i64 q).wf = true := seqs_Sequences.wf h0 h1
 have hwk : (Lit.int .i64 k).wf = true := seqs_Sequences.wf (by omega) (by omega)
 obtain ⟨w', hrun, ho, hg⟩ := h1'.update seqs_Sequences.key Try.underlying39 (by unfold maxLen; omega) (keyOf_int_mk Try.underlying3 hw) (plainElem_int (H := Unit) Try.underlying3 hwk)
 have hD := h1'.isMap
 refine ⟨w', hrun, ⟨_, ho, fun p => ?_⟩, hg⟩
 rw [seqs_Sequences.lk_cons]
 by_cases hpq : q = p
 ·
  subst hpq
  have kl : WideAt.IsKeyLit (.int .i64 q) := by constructor
  rw [if_pos rfl]
  exact ⟨has_put_same hD kl _, fun k' hk' => by injection hk' with hk'; subst hk'; exact atKey_put_same hD kl _ _⟩
 ·
  have hne : (Lit.int .i64 p) ≠ .int .i64 q := fun e => by injection e with _ e; exact hpq e.symm
  rw [if_neg hpq, has_put_other hne, atKey_put_other hne]
  exact h2 p
/-- Field 2 of element n is written. -/
theorem seqs_Sequences.sto2 {W : World} {base g m cap : Nat} {ok : Nat → Prop} {xs : List S28} (h : Kd.S k28 28 W base ok (.slice (some ⟨g, 0, none⟩) m cap) xs) (i : Int) (h0 : 0 ≤ i) (h1 : i < (m : Int)) (u : Int) :
  Kd.S k28 28 (W.setCell ⟨g, i.toNat * 4 + 2, none⟩ (.int .i64 u)) base ok (.slice (some ⟨g, 0, none⟩) m cap) (xs.set i.toNat ⟨(rd_T28 xs i).f0, (rd_T28 xs i).f1, u, (rd_T28 xs i).f3⟩) ∧ W.grownBy (W.setCell ⟨g, i.toNat * 4 + 2, none⟩ (.int .i64 u)) (some g) ∧ W.frozen? ⟨g, i.toNat * 4 + 2, none⟩ = false ∧ W.cell? ⟨g, i.toNat * 4 + 2, none⟩ = some (.int .i64 (rd_T28 xs i).f2) := by
 obtain ⟨oki, c, hcl, hM, hcc, hfr, hoki, hH⟩ := Kd.S_elem h z28 i h0 h1
 obtain ⟨v3, rfl, g3⟩ := k28_openM hM
 obtain ⟨q1, q2⟩ := Kd.S_seg0 (d := k28) hH h0 h1 (j := 2) (seg := [.int .i64 u]) (x' := ⟨(rd_T28 xs i).f0, (rd_T28 xs i).f1, u, (rd_T28 xs i).f3⟩) (okp := oki) (by show 2 + 1 ≤ 4; omega) (k28_mkM _ _ _ _ g3) (fun _ hk => hk)
 exact ⟨q1, q2, hfr 2, hcc 2 _ rfl⟩
/-- The sequence's row at a run, and the rows then. -/
def seqs_Sequences.pick (l : List S41) (para i : Int) (op : List (Int × Int)) (out : List S28) : Option (Int × List S28) :=
 match seqs_Sequences.lk op (rd_T41 l i).f1 with
 | none => (seqs_beside.f l (wrap64 (i - 1)) para).bind fun b => (seqs_way.f (rd_T41 l i).f0 b).bind fun s => some ((out.length : Int), out ++ [⟨(rd_T41 l i).f0, s, 0, []⟩])
 | some kk => some (kk, out)
def seqs_Sequences.gd (l : List S41) (i : Int) (op : List (Int × Int)) (out : List S28) : Prop := 0 ≤ (rd_T41 l i).f1 ∧ (rd_T41 l i).f1 < 1000000 ∧ op.length < 1000000 ∧ out.length < 1000000
instance (l : List S41) (i : Int) (op : List (Int × Int)) (out : List S28) : Decidable (seqs_Sequences.gd l i op out) := by unfold seqs_Sequences.gd; infer_instance
def seqs_Sequences.gk (l : List S41) (i kk : Int) (out : List S28) : Prop := 0 ≤ kk ∧ kk < (out.length : Int) ∧ (rd_T28 out kk).f3.length < 1000000 ∧ (rd_T41 l i).f3.length < 1000000
instance (l : List S41) (i kk : Int) (out : List S28) : Decidable (seqs_Sequences.gk l i kk out) := by unfold seqs_Sequences.gk; infer_instance
/-- The rest of the runs. -/
def seqs_Sequences.lp (l : List S41) (para : Int) (cl m : List Int) : Nat → Int → List (Int × Int) → List S28 → Option (List S28)
 | 0, _, _, out => some out
 | k + 1, i, op, out => if seqs_Sequences.gd l i op out then
  (seqs_Sequences.pick l para i op out).bind fun p => if seqs_Sequences.gk l i p.1 p.2 then
   (seqs_goes.f l i cl m).bind fun g => if g.2 = true then
     (if 0 ≤ g.1 ∧ g.1 < 1000000 then seqs_Sequences.lp l para cl m k (i + 1) ((g.1, p.1) :: op) (p.2.set p.1.toNat ⟨(rd_T28 p.2 p.1).f0, (rd_T28 p.2 p.1).f1, (rd_T28 p.2 p.1).f2, (rd_T28 p.2 p.1).f3 ++ (rd_T41 l i).f3⟩) else none)
    else (seqs_behind.f l i para cl m).bind fun b => (seqs_way.f (rd_T41 l i).f0 b).bind fun e =>
     seqs_Sequences.lp l para cl m k (i + 1) op (p.2.set p.1.toNat ⟨(rd_T28 p.2 p.1).f0, (rd_T28 p.2 p.1).f1, e, (rd_T28 p.2 p.1).f3 ++ (rd_T41 l i).f3⟩)
   else none
  else none
def seqs_Sequences.f (k : Nat) (l0 : List Int) (a1 : Int) : Option (List S28) :=
 (level_Explicit.f k l0 a1).bind fun b => (base_Match.f k l0).bind fun m => (seqs_runs.f b.1).bind fun l => if l.length < 1000000 then seqs_Sequences.lp l a1 l0 m l.length 0 [] [] else none
theorem seqs_Sequences.mono : ∀ a0 a1 k, LeO (seqs_Sequences.f k a0 a1) (seqs_Sequences.f (k + 1) a0 a1) := by
 intro a0 a1 k
 unfold seqs_Sequences.f
 refine LeO.bind (level_Explicit.mono _ _ _) (fun _ => ?_)
 refine LeO.bind (base_Match.mono _ _) (fun _ => ?_)
 exact LeO.refl _
set_option maxHeartbeats 8000000 in
set_option maxRecDepth 100000 in
theorem seqs_Sequences.calls (k : Nat) (A0 : Option Addr) (c0 : Nat) (l0 : List Int) (a1 : Int) (r : List S28) (w : World) (hr0 : Kd.C (Kd.int .i64) w A0 l0.length l0) (hc0 : l0.length ≤ c0) (h : seqs_Sequences.f k l0 a1 = some r) :
  Calls Try.prog 8 #[.slice A0 l0.length c0, .int .i64 a1] w fun e w' => ∃ v0_ : Value, e = .returned v0_ ∧ Kd.S k28 28 w' w.heap.size (fun _ => True) v0_ r ∧ Below w.heap.size w w' := by
 have HR0 := Aside0.mk hr0
 have HC0 := Aside0.mk hc0
 have HB0 := Aside0.mk (Below.refl w.heap.size w)
 unfold seqs_Sequences.f at h
 obtain ⟨⟨lv, tl⟩, hlv, h⟩ := Option.bind_eq_some_iff.mp h
 obtain ⟨m, hm, h⟩ := Option.bind_eq_some_iff.mp h
 obtain ⟨l, hl, h⟩ := Option.bind_eq_some_iff.mp h
 split at h
 rotate_left
 ·
  cases h
 rename_i hll
 have HLV := Aside0.mk hlv
 have HM := Aside0.mk hm
 have HL := Aside0.mk hl
 have HH := Aside0.mk h
 clear hlv hm hl h hr0 hc0
 have hmm := @run_makeMap Try.prog
 go_enter Try.func8, Try.ntmps8
 go_upto_region 4 with (first | (go_at_call 12; refine (level_Explicit.calls k A0 c0 l0 a1 lv tl _ HR0.out HC0.out HLV.out).mono ?_; rintro e w1 ⟨v1, v2, rfl, hlv1, hlv2, hb1⟩; obtain ⟨A1, c1, rfl, hc1, hr1⟩ := Kd.R_reads hlv1; have HR1 := Aside0.mk hr1; have HC1 := Aside0.mk hc1; have HB1 := Aside0.mk hb1; clear hlv1 hlv2 hb1 hr1 hc1) | (go_at_call 15; refine (base_Match.calls k A0 c0 l0 m _ (Kd.C_below HR0.out HB1.out) HC0.out HM.out).mono ?_; rintro e w2 ⟨v3, rfl, hm1, hb2⟩; obtain ⟨A2, c2, rfl, hc2, hr2⟩ := Kd.R_reads hm1; have HR2 := Aside0.mk hr2; have HC2 := Aside0.mk hc2; have HB2 := Aside0.mk (below_step HB1.out hb2); have HR1b := Aside0.mk (Kd.C_below HR1.out hb2); clear hm1 hb2 hr2 hc2) | (go_at_call 17; refine (seqs_runs.calls A1 c1 lv l _ HR1b.out HC1.out HL.out).mono ?_; rintro e w3 ⟨v4, rfl, hl1, hb3⟩; obtain ⟨A3, c3, rfl, hc3, hr3⟩ := Kd.S_reads hl1; have HR3 := Aside0.mk hr3; have HC3 := Aside0.mk hc3; have HB3 := Aside0.mk (below_step HB2.out hb3); have HR2b := Aside0.mk (Kd.C_below HR2.out hb3); clear hl1 hb3 hr3 hc3))
 clear HLV HM HL HB0 HB1 HB2 HR1 HR2 HR1b
 go_wp2
 go_loopg [31, 10] l.length (fun kx s31 s10 wr => ∃ (ii : Int) (op : List (Int × Int)) (out : List S28) (A : Option Addr) (c : Nat), s31 = .int .i64 ii ∧ s10 = .slice A out.length c ∧ Aside0 (ii = (l.length : Int) - kx) ∧ Aside0 (kx ≤ l.length) ∧ Aside0 (seqs_Sequences.lp l a1 l0 m kx ii op out = some r) ∧ Aside0 (Kd.S k28 28 wr w3.heap.size (fun k => k ≠ w3.heap.size) (.slice A out.length c) out) ∧ Aside0 (seqs_Sequences.Mp wr w3.heap.size op) ∧ Aside0 (Below w3.heap.size w3 wr))
 case atStart => exact ⟨0, [], [], none, 0, rfl, rfl, ⟨by omega⟩, ⟨Nat.le_refl _⟩, HH, ⟨Kd.S_nil _ _ _ _ _⟩, ⟨seqs_Sequences.Mp_made _⟩, ⟨below_alloc (Below.refl _ _) _⟩⟩
 case round =>
  clear HH
  obtain ⟨ii, op, out, A, c, rfl, rfl, HI, HK, HH, HS, HM, HB⟩ := hrel
  cases gk with
  | zero =>
   have b1 : decide (ii < (l.length : Int)) = false := decide_eq_false (by have := HI.out; omega)
   go_wp2
   go_ret
   exact ⟨_, rfl, by rw [← Option.some.inj HH.out]; exact Kd.S_mono (Kd.S_lower HS.out HB3.out.size) (fun _ _ => trivial), below_step HB3.out HB.out⟩
  | succ k1 =>
   have i0 : 0 ≤ ii := by have := HI.out; have := HK.out; omega
   have i1 : ii < (l.length : Int) := by have := HI.out; have := HK.out; omega
   have i2 : ii < 1000000 := by omega
   have b1 : decide (ii < (l.length : Int)) = true := decide_eq_true i1
   have h := HH.out
   clear HH
   unfold seqs_Sequences.lp at h
   split at h
   rotate_left
   ·
    cases h
   rename_i hg
   obtain ⟨g0, g1, g2, g3⟩ := hg
   obtain ⟨⟨kk, out2⟩, hp, h⟩ := Option.bind_eq_some_iff.mp h
   split at h
   rotate_left
   ·
    cases h
   rename_i hgk
   obtain ⟨q0, q1, q2, q3⟩ := hgk
   dsimp only at q0 q1 q2 q3 h hp
   obtain ⟨⟨gt, gm⟩, hgo, h⟩ := Option.bind_eq_some_iff.mp h
   dsimp only at h
   obtain ⟨ad, A9, c9, e0, y0, y1, y2, y3, hc9, hr9⟩ := at_T41 HR3.out ii i0 i1
   subst e0
   replace y0 := pw_cell_below HB.out y0
   replace y1 := pw_cell_below HB.out y1
   replace y2 := pw_cell_below HB.out y2
   replace y3 := pw_cell_below HB.out y3
   unfold seqs_Sequences.pick at hp
   generalize rd_T41 l ii = x at h hp g0 g1 q3 y0 y1 y2 y3 hc9 hr9
   obtain ⟨x0, x1, x2, x3⟩ := x
   dsimp only at h hp g0 g1 q3 y0 y1 y2 y3 hc9 hr9
   have HGO := Aside0.mk hgo
   have HP := Aside0.mk hp
   have HN := Aside0.mk h
   have HRX := Aside0.mk hr9
   clear h hp hgo hr9
   go_upto_region 9 with (fail)
   obtain ⟨W1, hW1⟩ : ∃ W1, wr.alloc (.cells #[.int .i64 x0, .int .i64 x1, .int .i64 x2, .slice A9 x3.length c9] 41) = W1 := ⟨_, rfl⟩
   have hbm : w3.heap.size < wr.heap.size := seqs_Sequences.Mp_lt HM.out
   have n0_ := Aside0.mk (show W1.heap[wr.heap.size]? = some (.cells #[.int .i64 x0, .int .i64 x1, .int .i64 x2, .slice A9 x3.length c9] 41 (0, 0)) by rw [← hW1]; exact blk_new _ _)
   have hba : Below wr.heap.size wr W1 := by rw [← hW1]; exact below_alloc (Below.refl _ _) _
   have n1_ := Aside0.mk (Kd.S_mono (Kd.S_bound (Kd.S_mono (Kd.S_bound HS.out) (fun k hk => (⟨hk.1, Nat.ne_of_lt hk.2.2.1⟩ : k ≠ w3.heap.size ∧ k ≠ wr.heap.size)))) (fun k hk => hk.1))
   have n2_ := Aside0.mk (Kd.S_below n1_.out hba)
   have n3_ := Aside0.mk (seqs_Sequences.Mp_below HM.out hba)
   have n4_ := Aside0.mk (below_step HB.out hba)
   rw [hW1]
   clear hW1 hba n1_ HS HM HB y0 y1 y2 y3
   generalize hbx : wr.heap.size = bx at n0_ n2_ hbm ⊢
   clear hbx
   have BX := n0_
   have HS := n2_
   have HM := n3_
   have HB := n4_
   have HNE := Aside0.mk hbm
   clear n0_ n2_ n3_ n4_ hbm
   have z1 : W1.cell? ⟨bx, 1, none⟩ = some (.int .i64 x1) := (blk_cell BX.out 1).trans rfl
   obtain ⟨cc, hlook, hcc⟩ := seqs_Sequences.Mp_look HM.out x1 (by omega) (by omega)
   have HLK : ∃ o_, seqs_Sequences.lk op x1 = o_ := ⟨_, rfl⟩
   obtain ⟨o_, ho_⟩ := HLK
   rw [ho_] at hlook
   have HP1 := HP.out
   rw [ho_] at HP1
   clear HP
   have HCC := Aside0.mk (show ∀ k, o_ = some k → cc = k from fun k hk => hcc k (by rw [ho_]; exact hk))
   clear hcc ho_
   cases o_
   case' none =>
    dsimp only at HP1
    obtain ⟨b, hb, HP2⟩ := Option.bind_eq_some_iff.mp HP1
    obtain ⟨sw, hsw, HP3⟩ := Option.bind_eq_some_iff.mp HP2
    simp only [Option.some.injEq, Prod.mk.injEq] at HP3
    obtain ⟨hkk, ho2⟩ := HP3
    have HBS := Aside0.mk hb
    have HSW := Aside0.mk hsw
    have HKK := Aside0.mk hkk
    have HO2 := Aside0.mk ho2
    clear HP1 HP2 hb hsw hkk ho2 HCC
    dsimp only [Option.isSome] at hlook
    go_upto_region 12 with (fail)
    clear z1 hlook
    refine start_ (n := 15) (S := fun w' => w'.cell? ⟨bx, 0, none⟩ = some (.int .i64 x0)) (ds := []) #[false, false, false, false, false, false, false, false, false, false, false, false, false, false, false] (by kernel_rfl) rfl rfl (((blk_cell BX.out 0).trans rfl)) (fun hHeld => ?_)
    have n0_ := Aside0.mk (Kd.S_drew HS.out)
    have n1_ := Aside0.mk (seqs_Sequences.Mp_block HM.out (w' := W1.drew) rfl)
    have n2_ := Aside0.mk (below_drew1 HB.out)
    have n3_ := Aside0.mk (blk_drew BX.out)
    clear HS HM HB BX
    have HS := n0_
    have HM := n1_
    have HB := n2_
    have BX := n3_
    clear n0_ n1_ n2_ n3_
    generalize W1.drew = W2 at HS HM HB BX hHeld ⊢
    refine pure_ (i := 0) (N := some 47) (v := ?_) (a' := ?_) #[true, false, false, false, false, false, false, false, false, false, false, false, false, false, false] rfl rfl (by kernel_rfl) (fun _ _ _ h => h) (Or.inl ⟨by rfl, ?_⟩) ?_ ?_
    rotate_left
    ·
     intro w'
     go_simp
     with_reducible rfl
    rotate_left
    ·
     simp only [Act.put, List.setIfInBounds_toArray, List.set_cons_zero, List.set_cons_succ, i64_w, i32_w]
     rfl
    refine pure_ (i := 1) (N := some 48) (v := ?_) (a' := ?_) #[true, true, false, false, false, false, false, false, false, false, false, false, false, false, false] rfl rfl (by kernel_rfl) (fun _ _ _ h => h) (Or.inl ⟨by rfl, ?_⟩) ?_ ?_
    rotate_left
    ·
     intro w'
     go_simp
     with_reducible rfl
    rotate_left
    ·
     simp only [Act.put, List.setIfInBounds_toArray, List.set_cons_zero, List.set_cons_succ, i64_w, i32_w]
     rfl
    refine pure_ (i := 3) (N := some 50) (v := ?_) (a' := ?_) #[true, true, false, true, false, false, false, false, false, false, false, false, false, false, false] rfl rfl (by kernel_rfl) (fun _ _ _ h => h) (Or.inl ⟨by rfl, ?_⟩) ?_ ?_
    rotate_left
    ·
     intro w'
     go_simp
     with_reducible rfl
    rotate_left
    ·
     simp only [Act.put, List.setIfInBounds_toArray, List.set_cons_zero, List.set_cons_succ, i64_w, i32_w]
     rfl
    refine pure_ (i := 5) (N := some 52) (v := ?_) (a' := ?_) #[true, true, false, true, false, true, false, false, false, false, false, false, false, false, false] rfl rfl (by kernel_rfl) (fun _ _ _ h => h) (Or.inl ⟨by rfl, ?_⟩) ?_ ?_
    rotate_left
    ·
     intro w'
     go_simp
     with_reducible rfl
    rotate_left
    ·
     simp only [Act.put, List.setIfInBounds_toArray, List.set_cons_zero, List.set_cons_succ, i64_w, i32_w]
     rfl
    refine pure_ (i := 6) (N := some 53) (v := ?_) (a' := ?_) #[true, true, false, true, false, true, true, false, false, false, false, false, false, false, false] rfl rfl (by kernel_rfl) (fun _ _ _ h => h) (Or.inl ⟨by rfl, ?_⟩) ?_ ?_
    rotate_left
    ·
     intro w'
     go_simp
     with_reducible rfl
    rotate_left
    ·
     simp only [Act.put, List.setIfInBounds_toArray, List.set_cons_zero, List.set_cons_succ, i64_w, i32_w]
     rfl
    refine pure_ (i := 7) (N := some 54) (v := ?_) (a' := ?_) #[true, true, false, true, false, true, true, true, false, false, false, false, false, false, false] rfl rfl (by kernel_rfl) (fun _ _ _ h => h) (Or.inl ⟨by rfl, ?_⟩) ?_ ?_
    rotate_left
    ·
     intro w'
     go_simp
     with_reducible rfl
    rotate_left
    ·
     simp only [Act.put, List.setIfInBounds_toArray, List.set_cons_zero, List.set_cons_succ, i64_w, i32_w]
     rfl
    refine pure_ (i := 8) (N := some 55) (v := ?_) (a' := ?_) #[true, true, false, true, false, true, true, true, true, false, false, false, false, false, false] rfl rfl (by kernel_rfl) (fun _ _ _ h => h) (Or.inl ⟨by rfl, ?_⟩) ?_ ?_
    rotate_left
    ·
     intro w'
     go_simp
     with_reducible rfl
    rotate_left
    ·
     simp only [Act.put, List.setIfInBounds_toArray, List.set_cons_zero, List.set_cons_succ, i64_w, i32_w]
     rfl
    refine take_ (i := 2) (N := some 49) (v := ?_) (a' := ?_) #[true, true, true, true, false, true, true, true, true, false, false, false, false, false, false] rfl rfl (by kernel_rfl) (fun _ _ _ h => h) (Or.inl ⟨by rfl, ?_⟩) hHeld ?_ ?_
    rotate_left
    ·
     intro w' s0
     go_simp
     with_reducible rfl
    rotate_left
    ·
     simp only [Act.put, List.setIfInBounds_toArray, List.set_cons_zero, List.set_cons_succ, i64_w, i32_w]
     rfl
    refine take_ (i := 4) (N := some 51) (v := ?_) (a' := ?_) #[true, true, true, true, true, true, true, true, true, false, false, false, false, false, false] rfl rfl (by kernel_rfl) (fun _ _ _ h => h) (Or.inl ⟨by rfl, ?_⟩) hHeld ?_ ?_
    rotate_left
    ·
     intro w' s0
     go_simp
     with_reducible rfl
    rotate_left
    ·
     simp only [Act.put, List.setIfInBounds_toArray, List.set_cons_zero, List.set_cons_succ, i64_w, i32_w]
     rfl
    refine one_ (i := 9) (N := some 56) #[true, true, true, true, true, true, true, true, true, true, false, false, false, false, false] rfl rfl (by kernel_rfl) (by decide) (fun K hK => ?_)
    refine goes_ Try.func19 (by kernel_rfl) rfl #[.slice (some ad) l.length c3, .int .i64 (wrap64 (ii - 1)), .int .i64 a1] (by rfl) rfl rfl (by simp only [List.map_toArray, List.map_cons, List.map_nil]; rfl) ?_
    with_reducible refine (seqs_beside.calls _ _ l (wrap64 (ii - 1)) a1 b _ (Kd.C_below HR3.out HB.out) HC3.out HBS.out).mono ?_
    rintro e w6 ⟨rfl, hd6⟩
    refine ⟨_, rfl, ?_⟩
    have hb6 := hd6.below
    have n0_ := Aside0.mk (Kd.S_below HS.out hb6)
    have n1_ := Aside0.mk (seqs_Sequences.Mp_below HM.out hb6)
    have n2_ := Aside0.mk (below_step HB.out hb6)
    have n3_ := Aside0.mk (blk_below BX.out hb6)
    clear HS HM HB BX hd6 hb6
    have HS := n0_
    have HM := n1_
    have HB := n2_
    have BX := n3_
    clear n0_ n1_ n2_ n3_
    refine hK.out _ _ ((blk_cell BX.out 0).trans rfl) (fun hHeld => ?_)
    clear hK K
    refine norm_ (a' := ?_) ?_ ?_
    rotate_left
    ·
     show Act.put _ (some 56) _ = _
     simp only [Act.put, List.setIfInBounds_toArray, List.set_cons_zero, List.set_cons_succ, i64_w, i32_w]
     rfl
    refine one_ (i := 10) (N := some 57) #[true, true, true, true, true, true, true, true, true, true, true, false, false, false, false] rfl rfl (by kernel_rfl) (by decide) (fun K hK => ?_)
    refine goes_ Try.func18 (by kernel_rfl) rfl #[.int .i64 x0, .int .i64 b] (by rfl) rfl rfl (by simp only [List.map_toArray, List.map_cons, List.map_nil]; rfl) ?_
    with_reducible refine (seqs_way.calls x0 b sw _ HSW.out).mono ?_
    rintro e w7 ⟨rfl, hb6⟩
    refine ⟨_, rfl, ?_⟩
    have n0_ := Aside0.mk (Kd.S_below HS.out hb6)
    have n1_ := Aside0.mk (seqs_Sequences.Mp_below HM.out hb6)
    have n2_ := Aside0.mk (below_step HB.out hb6)
    have n3_ := Aside0.mk (blk_below BX.out hb6)
    clear HS HM HB BX hb6
    have HS := n0_
    have HM := n1_
    have HB := n2_
    have BX := n3_
    clear n0_ n1_ n2_ n3_
    refine hK.out _ _ ((blk_cell BX.out 0).trans rfl) (fun hHeld => ?_)
    clear hK K
    refine norm_ (a' := ?_) ?_ ?_
    rotate_left
    ·
     show Act.put _ (some 57) _ = _
     simp only [Act.put, List.setIfInBounds_toArray, List.set_cons_zero, List.set_cons_succ, i64_w, i32_w]
     rfl
    refine pure_ (i := 11) (N := some 58) (v := ?_) (a' := ?_) #[true, true, true, true, true, true, true, true, true, true, true, true, false, false, false] rfl rfl (by kernel_rfl) (fun _ _ _ h => h) (Or.inl ⟨by rfl, ?_⟩) ?_ ?_
    rotate_left
    ·
     intro w'
     go_simp
     with_reducible rfl
    rotate_left
    ·
     simp only [Act.put, List.setIfInBounds_toArray, List.set_cons_zero, List.set_cons_succ, i64_w, i32_w]
     rfl
    refine one_ (i := 12) (N := some 59) #[true, true, true, true, true, true, true, true, true, true, true, true, true, false, false] rfl rfl (by kernel_rfl) (by decide) (fun K hK => ?_)
    refine event_step (w1 := w7.alloc (.cells #[.int .i64 x0, .int .i64 sw, .int .i64 0, .slice none 0 0] 28)) (v := .slice (some ⟨w7.heap.size, 0, none⟩) 1 1) (by rfl) (by go_simp) ?_
    refine hK.out _ _ ((blk_cell (blk_alloc BX.out _) 0).trans rfl) (fun hHeld => ?_)
    clear hK K
    refine norm_ (a' := ?_) ?_ ?_
    rotate_left
    ·
     show Act.put _ (some 59) _ = _
     simp only [Act.put, List.setIfInBounds_toArray, List.set_cons_zero, List.set_cons_succ, i64_w, i32_w]
     rfl
    refine one_ (i := 13) (N := some 60) #[true, true, true, true, true, true, true, true, true, true, true, true, true, true, false] rfl rfl (by kernel_rfl) (by decide) (fun K hK => ?_)
    refine Kd.S_append_step k28 (w0 := w3) w3.heap.size (by rfl) (.tmp 47) (.tmp 59) 24 28 (.agg #[(.int .i64 0), (.int .i64 0), (.int .i64 0), (.slice none 0 0)]) 48 rfl Try.underlying24 info28 rfl (by decide) (by omega) (.slice A out.length c) out (⟨x0, sw, 0, []⟩ : S28) [.int .i64 x0, .int .i64 sw, .int .i64 0, .slice none 0 0] (fun k => k ≠ w3.heap.size ∧ k ≠ bx) (fun _ => False) (by first | rfl | (go_simp; done) | (go_simp; rfl)) (by first | rfl | (go_simp; done) | (go_simp; rfl)) (k28_mkM _ _ _ _ (Kd.R_nil _ _ _ _ _)) (fun _ hk => hk.elim) (fun k hk => ⟨by have := blk_lt BX.out; have := HNE.out; omega, by have := blk_lt BX.out; omega⟩) (Kd.S_mono HS.out (fun k hk => ⟨hk, fun h => h⟩)) HB.out HB.out.size (by omega) ?_
    intro v_ WW ho hb8 hg8 hat
    rw [HO2.out] at ho
    obtain ⟨g, cap, hvv, _⟩ := Kd.S_form ho (by rw [← HO2.out]; simp)
    subst hvv
    have n1_ := Aside0.mk (seqs_Sequences.Mp_kept HM.out hg8 (Kd.S_away HS.out (fun k hk => hk.1)))
    have n3_ := Aside0.mk (blk_grown BX.out hg8 (Kd.S_away HS.out (fun k hk => hk.2)))
    have n0_ := Aside0.mk ho
    have n2_ := Aside0.mk hb8
    clear ho hat hb8 hg8 HS HM HB BX
    have HS := n0_
    have HM := n1_
    have HB := n2_
    have BX := n3_
    clear n0_ n1_ n2_ n3_
    refine hK.out _ _ ((blk_cell BX.out 0).trans rfl) (fun hHeld => ?_)
    clear hK K
    refine norm_ (a' := ?_) ?_ ?_
    rotate_left
    ·
     show Act.put _ (some 60) _ = _
     simp only [Act.put, List.setIfInBounds_toArray, List.set_cons_zero, List.set_cons_succ, i64_w, i32_w]
     rfl
    refine pure_ (i := 14) (N := some 10) (v := ?_) (a' := ?_) #[true, true, true, true, true, true, true, true, true, true, true, true, true, true, true] rfl rfl (by kernel_rfl) (fun _ _ _ h => h) (Or.inl ⟨by rfl, ?_⟩) ?_ ?_
    rotate_left
    ·
     intro w'
     go_simp
     with_reducible rfl
    rotate_left
    ·
     simp only [Act.put, List.setIfInBounds_toArray, List.set_cons_zero, List.set_cons_succ, i64_w, i32_w]
     rfl
    refine done_ (by kernel_rfl) ?_
    rw [HKK.out]
    have p0 : (0 ≤ kk) = True := eq_true q0
    have p1 : (kk < (out2.length : Int)) = True := eq_true q1
    have HLO := Aside0.mk (show out2.length < 1000001 by rw [← HO2.out]; simp; omega)
    clear hHeld HKK HO2 HBS HSW
    go_upto_region 14 with (fail)
    clear p0 p1
   case' some kk0 =>
    have hck := (HCC.out kk0 rfl).symm
    simp only [Option.some.injEq, Prod.mk.injEq] at HP1
    obtain ⟨h1, h2⟩ := HP1
    replace h1 := h1.symm
    replace h2 := h2.symm
    subst hck
    subst h1
    subst h2
    clear HCC
    obtain ⟨g, cap, hvv, _⟩ := Kd.S_form HS.out (by omega)
    have hva : A = some ⟨g, 0, none⟩ := by injection hvv
    have hvc : cap = c := by injection hvv with _ _ h; exact h.symm
    subst hva
    subst hvc
    clear hvv
    dsimp only [Option.isSome] at hlook
    have p0 : (0 ≤ kk) = True := eq_true q0
    have p1 : (kk < (out2.length : Int)) = True := eq_true q1
    have HLO := Aside0.mk (show out2.length < 1000001 by omega)
    obtain ⟨WW, hWW⟩ : ∃ WW, WW = W1 := ⟨_, rfl⟩
    subst hWW
    go_upto_region 14 with (fail)
    clear p0 p1 z1 hlook
   all_goals
    obtain ⟨W4, hW4⟩ : ∃ W4, WW.drew = W4 := ⟨_, rfl⟩
    have hsz4 : W4.heap.size = WW.heap.size := by rw [← hW4]; rfl
    have q3_ := Kd.S_drew (Kd.S_mono (Kd.S_bound HS.out) (fun k hk => (⟨hk.1, Nat.not_le.2 hk.2.2.1⟩ : (k ≠ w3.heap.size ∧ k ≠ bx) ∧ ¬ WW.heap.size ≤ k)))
    rw [hW4, ← hsz4] at q3_
    have n0_ := Aside0.mk q3_
    have n1_ := Aside0.mk (show seqs_Sequences.Mp W4 w3.heap.size op by rw [← hW4]; exact seqs_Sequences.Mp_block HM.out rfl)
    have n2_ := Aside0.mk (show Below w3.heap.size w3 W4 by rw [← hW4]; exact below_drew1 HB.out)
    have n3_ := Aside0.mk (show W4.heap[bx]? = some (.cells #[.int .i64 x0, .int .i64 x1, .int .i64 x2, .slice A9 x3.length c9] 41 (0, 0)) by rw [← hW4]; exact blk_drew BX.out)
    clear q3_ hsz4 HS HM HB BX
    have HS := n0_
    have HM := n1_
    have HB := n2_
    have BX := n3_
    clear n0_ n1_ n2_ n3_
    obtain ⟨oki, cs, hcl, hM4, hcc, hfr, hoki, hH⟩ := Kd.S_elem HS.out z28 kk q0 q1
    obtain ⟨v3, rfl, g3⟩ := k28_openM hM4
    obtain ⟨A5, c5, rfl⟩ := Kd.R_slice g3
    rw [show out2.getD kk.toNat z28 = rd_T28 out2 kk from rfl] at g3 hM4 hcc hH
    generalize hsq : rd_T28 out2 kk = sq at *
    obtain ⟨s0, s1, s2, s3⟩ := sq
    dsimp only at g3 hM4 hcc hH q2
    have ce : W4.cell? ⟨g, kk.toNat * 4 + 3, none⟩ = some (.slice A5 s3.length c5) := hcc 3 _ rfl
    refine start_ (n := 11) (S := fun w' => w'.cell? ⟨g, kk.toNat * 4 + 3, none⟩ = some (.slice A5 s3.length c5) ∧ w'.cell? ⟨bx, 3, none⟩ = some (.slice A9 x3.length c9)) (ds := [10]) #[false, false, false, false, false, false, false, false, false, false, false] (by kernel_rfl) rfl rfl ⟨hW4 ▸ ce, hW4 ▸ (blk_cell BX.out 3).trans rfl⟩ (fun hHeld => ?_)
    rw [hW4] at hHeld ⊢
    refine pure_ (i := 0) (N := some 64) (v := ?_) (a' := ?_) #[true, false, false, false, false, false, false, false, false, false, false] rfl rfl (by kernel_rfl) (fun _ _ _ h => h) (Or.inl ⟨by rfl, ?_⟩) ?_ ?_
    rotate_left
    ·
     intro w'
     go_simp
     with_reducible rfl
    rotate_left
    ·
     simp only [Act.put, List.setIfInBounds_toArray, List.set_cons_zero, List.set_cons_succ, i64_w, i32_w]
     rfl
    refine pure_ (i := 1) (N := some 65) (v := ?_) (a' := ?_) #[true, true, false, false, false, false, false, false, false, false, false] rfl rfl (by kernel_rfl) (fun _ _ _ h => h) (Or.inl ⟨by rfl, ?_⟩) ?_ ?_
    rotate_left
    ·
     intro w'
     go_simp
     with_reducible rfl
    rotate_left
    ·
     simp only [Act.put, List.setIfInBounds_toArray, List.set_cons_zero, List.set_cons_succ, i64_w, i32_w]
     rfl
    refine pure_ (i := 2) (N := some 66) (v := ?_) (a' := ?_) #[true, true, true, false, false, false, false, false, false, false, false] rfl rfl (by kernel_rfl) (fun _ _ _ h => h) (Or.inl ⟨by rfl, ?_⟩) ?_ ?_
    rotate_left
    ·
     intro w'
     go_simp
     with_reducible rfl
    rotate_left
    ·
     simp only [Act.put, List.setIfInBounds_toArray, List.set_cons_zero, List.set_cons_succ, i64_w, i32_w]
     rfl
    refine pure_ (i := 3) (N := some 67) (v := ?_) (a' := ?_) #[true, true, true, true, false, false, false, false, false, false, false] rfl rfl (by kernel_rfl) (fun _ _ _ h => h) (Or.inl ⟨by rfl, ?_⟩) ?_ ?_
    rotate_left
    ·
     intro w'
     go_simp
     with_reducible rfl
    rotate_left
    ·
     simp only [Act.put, List.setIfInBounds_toArray, List.set_cons_zero, List.set_cons_succ, i64_w, i32_w]
     rfl
    refine pure_ (i := 5) (N := some 69) (v := ?_) (a' := ?_) #[true, true, true, true, false, true, false, false, false, false, false] rfl rfl (by kernel_rfl) (fun _ _ _ h => h) (Or.inl ⟨by rfl, ?_⟩) ?_ ?_
    rotate_left
    ·
     intro w'
     go_simp
     with_reducible rfl
    rotate_left
    ·
     simp only [Act.put, List.setIfInBounds_toArray, List.set_cons_zero, List.set_cons_succ, i64_w, i32_w]
     rfl
    refine take_ (i := 4) (N := some 68) (v := ?_) (a' := ?_) #[true, true, true, true, true, true, false, false, false, false, false] rfl rfl (by kernel_rfl) (fun _ _ _ h => h) (Or.inl ⟨by rfl, ?_⟩) hHeld ?_ ?_
    rotate_left
    ·
     rintro w' ⟨s0, s1⟩
     go_simp
     with_reducible rfl
    rotate_left
    ·
     simp only [Act.put, List.setIfInBounds_toArray, List.set_cons_zero, List.set_cons_succ, i64_w, i32_w]
     rfl
    refine take_ (i := 6) (N := some 70) (v := ?_) (a' := ?_) #[true, true, true, true, true, true, true, false, false, false, false] rfl rfl (by kernel_rfl) (fun _ _ _ h => h) (Or.inl ⟨by rfl, ?_⟩) hHeld ?_ ?_
    rotate_left
    ·
     rintro w' ⟨s0, s1⟩
     go_simp
     with_reducible rfl
    rotate_left
    ·
     simp only [Act.put, List.setIfInBounds_toArray, List.set_cons_zero, List.set_cons_succ, i64_w, i32_w]
     rfl
    refine one_ (i := 7) (N := some 71) #[true, true, true, true, true, true, true, true, false, false, false] rfl rfl (by kernel_rfl) (by decide) (fun K hK => ?_)
    refine Kd.R_append_rows_step (Kd.int .i64) (w0 := w3) w3.heap.size (by rfl) (.tmp 68) (.tmp 70) 22 3 (.int .i64 0) 8 rfl Try.underlying22 info3 rfl (by decide) (by omega) (.slice A5 s3.length c5) s3 x3 A9 x3.length c9 (fun k => oki k ∨ W4.heap.size ≤ k) (fun _ => False) (by first | rfl | (go_simp; done) | (go_simp; rfl)) (by first | rfl | (go_simp; done) | (go_simp; rfl)) (Kd.R_mono g3 (fun k hk => .inl hk)) (Kd.C_below HRX.out HB.out) (fun _ _ h => h) (fun _ hk => hk.elim) (fun k hk => .inr hk) HB.out HB.out.size (by omega) ?_
    intro v_ w5 ho hb5 hg5 hat
    obtain ⟨A6, c6, rfl⟩ := Kd.R_slice ho
    have hH5 := Kd.H_grown hH hg5 (fun k e => g3.1 k e)
    have n1_ := Aside0.mk (seqs_Sequences.Mp_kept HM.out hg5 (fun e => (hoki _ (g3.1 _ e.symm)).1.1.1 rfl))
    have n3_ := Aside0.mk (blk_grown BX.out hg5 (fun e => (hoki _ (g3.1 _ e.symm)).1.1.2 rfl))
    refine hK.out _ _ ⟨(Kd.H_at hH5 q0 q1).1 3 _ rfl, (blk_cell n3_.out 3).trans rfl⟩ (fun hHeld => ?_)
    clear hK K
    refine norm_ (a' := ?_) ?_ ?_
    rotate_left
    ·
     show Act.put _ (some 71) _ = _
     simp only [Act.put, List.setIfInBounds_toArray, List.set_cons_zero, List.set_cons_succ, i64_w, i32_w]
     rfl
    refine pure_ (i := 8) (N := some 72) (v := ?_) (a' := ?_) #[true, true, true, true, true, true, true, true, true, false, false] rfl rfl (by kernel_rfl) (fun _ _ _ h => h) (Or.inl ⟨by rfl, ?_⟩) ?_ ?_
    rotate_left
    ·
     intro w'
     go_simp
     with_reducible rfl
    rotate_left
    ·
     simp only [Act.put, List.setIfInBounds_toArray, List.set_cons_zero, List.set_cons_succ, i64_w, i32_w]
     rfl
    refine pure_ (i := 9) (N := some 73) (v := ?_) (a' := ?_) #[true, true, true, true, true, true, true, true, true, true, false] rfl rfl (by kernel_rfl) (fun _ _ _ h => h) (Or.inl ⟨by rfl, ?_⟩) ?_ ?_
    rotate_left
    ·
     intro w'
     go_simp
     with_reducible rfl
    rotate_left
    ·
     simp only [Act.put, List.setIfInBounds_toArray, List.set_cons_zero, List.set_cons_succ, i64_w, i32_w]
     rfl
    refine last_ (i := 10) (N := none) #[true, true, true, true, true, true, true, true, true, true, true] rfl rfl (by kernel_rfl) (by decide) (fun K hK => ?_)
    have ff : w5.frozen? ⟨g, kk.toNat * 4 + 3, none⟩ = false := (Kd.H_at hH5 q0 q1).2 3
    have fc : w5.cell? ⟨g, kk.toNat * 4 + 3, none⟩ = some (.slice A5 s3.length c5) := (Kd.H_at hH5 q0 q1).1 3 _ rfl
    refine skip_ (w1 := ?_) (by rfl) rfl ?_ ?_
    rotate_left
    ·
     go_simp
     rfl
    refine hK.out _ _ ?_
    clear hK K
    refine done_ (by kernel_rfl) ?_
    dsimp only at HN
    have hg4 : g < W4.heap.size := Kd.S_lt HS.out g (by simp [Value.ownBlock])
    have hgn : g ≠ w3.heap.size ∧ g ≠ bx := (HS.out.choose_spec.1 g (by simp [Value.ownBlock])).1
    have hbg : w3.heap.size ≤ g := Kd.S_base HS.out g (by simp [Value.ownBlock])
    have hlx := blk_lt BX.out
    have hlm := seqs_Sequences.Mp_lt HM.out
    have SS := Kd.S_seg (d := k28) (ok := fun k => k ≠ w3.heap.size ∧ k ≠ bx) (okg := fun k => W4.heap.size ≤ k) hH5 q0 q1 (j := 3) (seg := [.slice A6 (s3.length + x3.length) c6]) (x' := ⟨s0, s1, s2, s3 ++ x3⟩) (okp := fun k => oki k ∨ W4.heap.size ≤ k) (by show 3 + 1 ≤ 4; omega) (k28_mkM _ _ _ _ (by rw [List.length_append] at ho; exact ho)) (fun _ hk => hk) (fun k hk => ⟨⟨by omega, by omega⟩, by omega⟩)
    obtain ⟨W6, hW6⟩ : ∃ W6, w5.setCell ⟨g, kk.toNat * 4 + 3, none⟩ (.slice A6 (s3.length + x3.length) c6) = W6 := ⟨_, rfl⟩
    have n4_ := Aside0.mk (show Kd.S k28 28 W6 w3.heap.size (fun k => k ≠ w3.heap.size ∧ k ≠ bx) (.slice (some ⟨g, 0, none⟩) out2.length cap) (out2.set kk.toNat ⟨s0, s1, s2, s3 ++ x3⟩) by rw [← hW6]; exact SS.1)
    have n5_ := Aside0.mk (show seqs_Sequences.Mp W6 w3.heap.size op by rw [← hW6]; exact seqs_Sequences.Mp_set n1_.out (fun e => hgn.1 e.symm) _)
    have n6_ := Aside0.mk (show Below w3.heap.size w3 W6 by rw [← hW6]; exact hb5.setCell (p := ⟨g, kk.toNat * 4 + 3, none⟩) hbg _)
    have n7_ := Aside0.mk (show W6.heap[bx]? = some (.cells #[.int .i64 x0, .int .i64 x1, .int .i64 x2, .slice A9 x3.length c9] 41 (0, 0)) by rw [← hW6]; exact blk_far n3_.out (p := ⟨g, kk.toNat * 4 + 3, none⟩) (fun e => hgn.2 e.symm) _)
    rw [hW6]
    clear hW6 SS hH5 ho hb5 hg5 hat n1_ n3_ HS HM HB BX hM4 hcc hfr hoki hH g3 ce ff fc hcl hHeld hW4 hg4 hlx hlm
    have HS := n4_
    have HM := n5_
    have HB := n6_
    have BX := n7_
    clear n4_ n5_ n6_ n7_
    have HGN := Aside0.mk hgn
    have HBG := Aside0.mk hbg
    clear hgn hbg
    have hlo := HLO.out
    cases gm with
    | true =>
     have h := HN.out
     rw [if_pos rfl] at h
     split at h
     rotate_left
     ·
      cases h
     rename_i hgt
     have HH := Aside0.mk h
     clear h HN
     go_upto_region 17 with (go_at_call 20; refine (seqs_goes.calls (some ad) c3 l ii A0 c0 l0 A2 c2 m gt true _ (Kd.C_below HR3.out HB.out) HC3.out (Kd.C_below HR0.out (below_step HB3.out HB.out)) HC0.out (Kd.C_below HR2b.out HB.out) HC2.out HGO.out).mono ?_; rintro e w7 ⟨rfl, hb6⟩; have n0_ := Aside0.mk (Kd.S_below HS.out hb6); have n1_ := Aside0.mk (seqs_Sequences.Mp_below HM.out hb6); have n2_ := Aside0.mk (below_step HB.out hb6); have n3_ := Aside0.mk (blk_below BX.out hb6); clear HS HM HB BX hb6; have HS := n0_; have HM := n1_; have HB := n2_; have BX := n3_; clear n0_ n1_ n2_ n3_)
     obtain ⟨W8, hup, hm8, hg8⟩ := seqs_Sequences.Mp_put HM.out gt kk (by omega) (by omega) q0 (by omega) g2
     have n0_ := Aside0.mk (Kd.S_mono (Kd.S_grown HS.out hg8 (fun k hk e => hk.1 (by injection e))) (fun k hk => hk.1))
     have n1_ := Aside0.mk hm8
     have n2_ := Aside0.mk (HB.out.grown hg8 HB.out.size (fun j hj => by cases hj; exact Nat.le_refl _))
     clear hm8 hg8 HS HM HB
     go_wp2
     go_roundg k1
     case measure => exact Nat.lt_succ_self _
     case rel => exact ⟨ii + 1, (gt, kk) :: op, _, _, _, rfl, by rw [List.length_set], ⟨by have := HI.out; have := HK.out; omega⟩, ⟨by have := HK.out; omega⟩, HH, by rw [List.length_set]; exact n0_, n1_, n2_⟩
    | false =>
     have h := HN.out
     rw [if_neg (by decide)] at h
     obtain ⟨b2, hb2, h⟩ := Option.bind_eq_some_iff.mp h
     obtain ⟨ev, hev, h⟩ := Option.bind_eq_some_iff.mp h
     have HBH := Aside0.mk hb2
     have HEV := Aside0.mk hev
     have HH := Aside0.mk h
     clear h hb2 hev HN
     go_upto_region 18 with (go_at_call 20; refine (seqs_goes.calls (some ad) c3 l ii A0 c0 l0 A2 c2 m gt false _ (Kd.C_below HR3.out HB.out) HC3.out (Kd.C_below HR0.out (below_step HB3.out HB.out)) HC0.out (Kd.C_below HR2b.out HB.out) HC2.out HGO.out).mono ?_; rintro e w7 ⟨rfl, hb6⟩; have n0_ := Aside0.mk (Kd.S_below HS.out hb6); have n1_ := Aside0.mk (seqs_Sequences.Mp_below HM.out hb6); have n2_ := Aside0.mk (below_step HB.out hb6); have n3_ := Aside0.mk (blk_below BX.out hb6); clear HS HM HB BX hb6; have HS := n0_; have HM := n1_; have HB := n2_; have BX := n3_; clear n0_ n1_ n2_ n3_)
     refine start_ (n := 13) (S := fun w' => w'.cell? ⟨bx, 0, none⟩ = some (.int .i64 x0)) (ds := [12]) #[false, false, false, false, false, false, false, false, false, false, false, false, false] (by kernel_rfl) rfl rfl ((blk_cell BX.out 0).trans rfl) (fun hHeld => ?_)
     have n0_ := Aside0.mk (Kd.S_drew HS.out)
     have n1_ := Aside0.mk (seqs_Sequences.Mp_block HM.out (w' := w7.drew) rfl)
     have n2_ := Aside0.mk (below_drew1 HB.out)
     have n3_ := Aside0.mk (blk_drew BX.out)
     clear HS HM HB BX
     have HS := n0_
     have HM := n1_
     have HB := n2_
     have BX := n3_
     clear n0_ n1_ n2_ n3_
     generalize w7.drew = W7 at HS HM HB BX hHeld ⊢
     refine pure_ (i := 0) (N := some 86) (v := ?_) (a' := ?_) #[true, false, false, false, false, false, false, false, false, false, false, false, false] rfl rfl (by kernel_rfl) (fun _ _ _ h => h) (Or.inl ⟨by rfl, ?_⟩) ?_ ?_
     rotate_left
     ·
      intro w'
      go_simp
      with_reducible rfl
     rotate_left
     ·
      simp only [Act.put, List.setIfInBounds_toArray, List.set_cons_zero, List.set_cons_succ, i64_w, i32_w]
      rfl
     refine pure_ (i := 1) (N := some 87) (v := ?_) (a' := ?_) #[true, true, false, false, false, false, false, false, false, false, false, false, false] rfl rfl (by kernel_rfl) (fun _ _ _ h => h) (Or.inl ⟨by rfl, ?_⟩) ?_ ?_
     rotate_left
     ·
      intro w'
      go_simp
      with_reducible rfl
     rotate_left
     ·
      simp only [Act.put, List.setIfInBounds_toArray, List.set_cons_zero, List.set_cons_succ, i64_w, i32_w]
      rfl
     refine pure_ (i := 3) (N := some 89) (v := ?_) (a' := ?_) #[true, true, false, true, false, false, false, false, false, false, false, false, false] rfl rfl (by kernel_rfl) (fun _ _ _ h => h) (Or.inl ⟨by rfl, ?_⟩) ?_ ?_
     rotate_left
     ·
      intro w'
      go_simp
      with_reducible rfl
     rotate_left
     ·
      simp only [Act.put, List.setIfInBounds_toArray, List.set_cons_zero, List.set_cons_succ, i64_w, i32_w]
      rfl
     refine pure_ (i := 4) (N := some 90) (v := ?_) (a' := ?_) #[true, true, false, true, true, false, false, false, false, false, false, false, false] rfl rfl (by kernel_rfl) (fun _ _ _ h => h) (Or.inl ⟨by rfl, ?_⟩) ?_ ?_
     rotate_left
     ·
      intro w'
      go_simp
      with_reducible rfl
     rotate_left
     ·
      simp only [Act.put, List.setIfInBounds_toArray, List.set_cons_zero, List.set_cons_succ, i64_w, i32_w]
      rfl
     refine pure_ (i := 5) (N := some 91) (v := ?_) (a' := ?_) #[true, true, false, true, true, true, false, false, false, false, false, false, false] rfl rfl (by kernel_rfl) (fun _ _ _ h => h) (Or.inl ⟨by rfl, ?_⟩) ?_ ?_
     rotate_left
     ·
      intro w'
      go_simp
      with_reducible rfl
     rotate_left
     ·
      simp only [Act.put, List.setIfInBounds_toArray, List.set_cons_zero, List.set_cons_succ, i64_w, i32_w]
      rfl
     refine pure_ (i := 6) (N := some 92) (v := ?_) (a' := ?_) #[true, true, false, true, true, true, true, false, false, false, false, false, false] rfl rfl (by kernel_rfl) (fun _ _ _ h => h) (Or.inl ⟨by rfl, ?_⟩) ?_ ?_
     rotate_left
     ·
      intro w'
      go_simp
      with_reducible rfl
     rotate_left
     ·
      simp only [Act.put, List.setIfInBounds_toArray, List.set_cons_zero, List.set_cons_succ, i64_w, i32_w]
      rfl
     refine pure_ (i := 7) (N := some 93) (v := ?_) (a' := ?_) #[true, true, false, true, true, true, true, true, false, false, false, false, false] rfl rfl (by kernel_rfl) (fun _ _ _ h => h) (Or.inl ⟨by rfl, ?_⟩) ?_ ?_
     rotate_left
     ·
      intro w'
      go_simp
      with_reducible rfl
     rotate_left
     ·
      simp only [Act.put, List.setIfInBounds_toArray, List.set_cons_zero, List.set_cons_succ, i64_w, i32_w]
      rfl
     refine take_ (i := 2) (N := some 88) (v := ?_) (a' := ?_) #[true, true, true, true, true, true, true, true, false, false, false, false, false] rfl rfl (by kernel_rfl) (fun _ _ _ h => h) (Or.inl ⟨by rfl, ?_⟩) hHeld ?_ ?_
     rotate_left
     ·
      intro w' s0
      go_simp
      with_reducible rfl
     rotate_left
     ·
      simp only [Act.put, List.setIfInBounds_toArray, List.set_cons_zero, List.set_cons_succ, i64_w, i32_w]
      rfl
     refine one_ (i := 8) (N := some 94) #[true, true, true, true, true, true, true, true, true, false, false, false, false] rfl rfl (by kernel_rfl) (by decide) (fun K hK => ?_)
     refine goes_ Try.func21 (by kernel_rfl) rfl #[.slice (some ad) l.length c3, .int .i64 ii, .int .i64 a1, .slice A0 l0.length c0, .slice A2 m.length c2] (by rfl) rfl rfl (by simp only [List.map_toArray, List.map_cons, List.map_nil]; rfl) ?_
     with_reducible refine (seqs_behind.calls (some ad) c3 l ii a1 A0 c0 l0 A2 c2 m b2 _ (Kd.C_below HR3.out HB.out) HC3.out (Kd.C_below HR0.out (below_step HB3.out HB.out)) HC0.out (Kd.C_below HR2b.out HB.out) HC2.out HBH.out).mono ?_
     rintro e w8 ⟨rfl, hd6⟩
     refine ⟨_, rfl, ?_⟩
     have hb6 := hd6.below
     clear hd6
     have n0_ := Aside0.mk (Kd.S_below HS.out hb6)
     have n1_ := Aside0.mk (seqs_Sequences.Mp_below HM.out hb6)
     have n2_ := Aside0.mk (below_step HB.out hb6)
     have n3_ := Aside0.mk (blk_below BX.out hb6)
     clear HS HM HB BX hb6
     have HS := n0_
     have HM := n1_
     have HB := n2_
     have BX := n3_
     clear n0_ n1_ n2_ n3_
     refine hK.out _ _ ((blk_cell BX.out 0).trans rfl) (fun hHeld => ?_)
     clear hK K
     refine norm_ (a' := ?_) ?_ ?_
     rotate_left
     ·
      show Act.put _ (some 94) _ = _
      simp only [Act.put, List.setIfInBounds_toArray, List.set_cons_zero, List.set_cons_succ, i64_w, i32_w]
      rfl
     refine one_ (i := 9) (N := some 95) #[true, true, true, true, true, true, true, true, true, true, false, false, false] rfl rfl (by kernel_rfl) (by decide) (fun K hK => ?_)
     refine goes_ Try.func18 (by kernel_rfl) rfl #[.int .i64 x0, .int .i64 b2] (by rfl) rfl rfl (by simp only [List.map_toArray, List.map_cons, List.map_nil]; rfl) ?_
     with_reducible refine (seqs_way.calls x0 b2 ev _ HEV.out).mono ?_
     rintro e w9 ⟨rfl, hb6⟩
     refine ⟨_, rfl, ?_⟩
     have n0_ := Aside0.mk (Kd.S_below HS.out hb6)
     have n1_ := Aside0.mk (seqs_Sequences.Mp_below HM.out hb6)
     have n2_ := Aside0.mk (below_step HB.out hb6)
     have n3_ := Aside0.mk (blk_below BX.out hb6)
     clear HS HM HB BX hb6
     have HS := n0_
     have HM := n1_
     have HB := n2_
     have BX := n3_
     clear n0_ n1_ n2_ n3_
     refine hK.out _ _ ((blk_cell BX.out 0).trans rfl) (fun hHeld => ?_)
     clear hK K
     refine norm_ (a' := ?_) ?_ ?_
     rotate_left
     ·
      show Act.put _ (some 95) _ = _
      simp only [Act.put, List.setIfInBounds_toArray, List.set_cons_zero, List.set_cons_succ, i64_w, i32_w]
      rfl
     refine pure_ (i := 10) (N := some 96) (v := ?_) (a' := ?_) #[true, true, true, true, true, true, true, true, true, true, true, false, false] rfl rfl (by kernel_rfl) (fun _ _ _ h => h) (Or.inl ⟨by rfl, ?_⟩) ?_ ?_
     rotate_left
     ·
      intro w'
      go_simp
      with_reducible rfl
     rotate_left
     ·
      simp only [Act.put, List.setIfInBounds_toArray, List.set_cons_zero, List.set_cons_succ, i64_w, i32_w]
      rfl
     refine pure_ (i := 11) (N := some 97) (v := ?_) (a' := ?_) #[true, true, true, true, true, true, true, true, true, true, true, true, false] rfl rfl (by kernel_rfl) (fun _ _ _ h => h) (Or.inl ⟨by rfl, ?_⟩) ?_ ?_
     rotate_left
     ·
      intro w'
      go_simp
      with_reducible rfl
     rotate_left
     ·
      simp only [Act.put, List.setIfInBounds_toArray, List.set_cons_zero, List.set_cons_succ, i64_w, i32_w]
      rfl
     refine last_ (i := 12) (N := none) #[true, true, true, true, true, true, true, true, true, true, true, true, true] rfl rfl (by kernel_rfl) (by decide) (fun K hK => ?_)
     obtain ⟨s5, s6, ff, fc⟩ := seqs_Sequences.sto2 HS.out kk q0 q1 ev
     refine skip_ (w1 := ?_) (by rfl) rfl ?_ ?_
     rotate_left
     ·
      go_simp
      rfl
     refine hK.out _ _ ?_
     clear hK K
     refine done_ (by kernel_rfl) ?_
     have hrd : rd_T28 (out2.set kk.toNat ⟨s0, s1, s2, s3 ++ x3⟩) kk = ⟨s0, s1, s2, s3 ++ x3⟩ := by
      unfold rd_T28
      rw [List.getD_eq_getElem?_getD, List.getElem?_set_self (by omega)]
      rfl
     rw [hrd, List.set_set] at s5
     obtain ⟨W10, hW10⟩ : ∃ W10, w9.setCell ⟨g, kk.toNat * 4 + 2, none⟩ (.int .i64 ev) = W10 := ⟨_, rfl⟩
     have n0_ := Aside0.mk (show Kd.S k28 28 W10 w3.heap.size (fun k => k ≠ w3.heap.size) (.slice (some ⟨g, 0, none⟩) out2.length cap) (out2.set kk.toNat ⟨s0, s1, ev, s3 ++ x3⟩) by rw [← hW10]; exact Kd.S_mono s5 (fun k hk => hk.1))
     have n1_ := Aside0.mk (show seqs_Sequences.Mp W10 w3.heap.size op by rw [← hW10]; exact seqs_Sequences.Mp_set HM.out (fun e => HGN.out.1 e.symm) _)
     have n2_ := Aside0.mk (show Below w3.heap.size w3 W10 by rw [← hW10]; exact HB.out.setCell (p := ⟨g, kk.toNat * 4 + 2, none⟩) HBG.out _)
     rw [hW10]
     clear s5 s6 ff fc hrd hW10 HS HM HB BX hHeld
     go_wp2
     go_roundg k1
     case measure => exact Nat.lt_succ_self _
     case rel => exact ⟨ii + 1, op, _, _, _, rfl, by rw [List.length_set], ⟨by have := HI.out; have := HK.out; omega⟩, ⟨by have := HK.out; omega⟩, HH, by rw [List.length_set]; exact n0_, n1_, n2_⟩
end


end Go.Proofs.Ytdieknpikdepgaa.PC12
