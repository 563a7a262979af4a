/- For the laws of the group C12: the Lean functions that the Go functions compute, and proofs that they do. Written by wip/hprint.py of this repo over the kit's printer; nothing here is trusted: Lean checks it. -/
import Derived.Test.YtdieknpikdepgaaPC12x0
import Derived.Test.YtdieknpikdepgaaPC12x4
import Derived.Test.YtdieknpikdepgaaPC12x5
import Derived.Test.YtdieknpikdepgaaPC12x6
import Derived.Test.YtdieknpikdepgaaPC12x13
namespace Go.Proofs.Ytdieknpikdepgaa.PC12
open Go.RowKit Go.Proofs.YtdieknpikdepgaaW.PrintWords Go.Proofs.YtdieknpikdepgaaW.PrintLast Go.Proofs.YtdieknpikdepgaaW.PrintMore
attribute [local go_sem] max2_int min2_int max_two min_two max_three min_three max_four min_four   -- for this text's walks alone
set_option linter.unusedVariables false
set_option linter.unusedSimpArgs false

/-! ### parquetrylaw12_SeqsFound: function 3: by hand -/
def parquetrylaw12_SeqsFound.f (k : Nat) (l0 : List Int) (a1 : Int) : Option Bool :=
 if (l0.length : Int) > 60 then parquetrylaw12_awake.f k else
  (seqs_Sequences.f k l0 a1).bind fun s => (parquetryref12_Sequences.f k l0 a1).bind fun t => (parquetryref12_Same.f k s t).bind fun b => if b = true ∧ s.length < 1000000 ∧ l0.length < 1000000 then (parquetryref02_Same.f k l0 l0).bind fun b2 => if b2 = true then parquetrylaw12_awake.f k else none else none
theorem parquetrylaw12_SeqsFound.mono : ∀ a0 a1 k, LeO (parquetrylaw12_SeqsFound.f k a0 a1) (parquetrylaw12_SeqsFound.f (k + 1) a0 a1) := by
 intro a0 a1 k
 unfold parquetrylaw12_SeqsFound.f
 refine LeO.ite (parquetrylaw12_awake.mono _) ?_
 refine LeO.bind (seqs_Sequences.mono _ _ _) (fun _ => ?_)
 refine LeO.bind (parquetryref12_Sequences.mono _ _ _) (fun _ => ?_)
 refine LeO.bind (parquetryref12_Same.mono _ _ _) (fun _ => ?_)
 exact LeO.ite (LeO.bind (parquetryref02_Same.mono _ _ _) (fun _ => LeO.ite (parquetrylaw12_awake.mono _) (LeO.refl _))) (LeO.refl _)
section
open Go.Proofs.YtdieknpikdepgaaH
set_option maxHeartbeats 2000000 in
set_option maxRecDepth 100000 in
theorem parquetrylaw12_SeqsFound.calls (k : Nat) (A0 : Option Addr) (c0 : Nat) (l0 : List Int) (a1 : Int) (r : Bool) (w : World) (hr0 : Kd.C (Kd.int .i64) w A0 l0.length l0) (hc0 : l0.length ≤ c0) (h : parquetrylaw12_SeqsFound.f k l0 a1 = some r) :
  Calls Try.prog 3 #[.slice A0 l0.length c0, .int .i64 a1] w fun e w' => e = .returned (.bool r) ∧ Below w.heap.size w w' := by
 have HR0 := Aside0.mk hr0
 have HC0 := Aside0.mk hc0
 have HB := Aside0.mk (Below.refl w.heap.size w)
 clear hr0 hc0
 unfold parquetrylaw12_SeqsFound.f at h
 by_cases hn : (l0.length : Int) > 60
 ·
  rw [if_pos hn] at h
  have hb := decide_eq_true hn
  have HH := Aside0.mk h
  clear h hn
  go_enter Try.func3, Try.ntmps3
  go_wp2_with (go_at_call 7; refine (parquetrylaw12_awake.calls k r _ HH.out).mono ?_; rintro e w1 ⟨rfl, hb1⟩; have n0_ := Aside0.mk hb1; clear hb1)
  go_ret
  exact ⟨rfl, n0_.out⟩
 ·
  rw [if_neg hn] at h
  have hb0 := decide_eq_false hn
  obtain ⟨s, hs, h⟩ := Option.bind_eq_some_iff.mp h
  obtain ⟨t, ht, h⟩ := Option.bind_eq_some_iff.mp h
  obtain ⟨b, hb, h⟩ := Option.bind_eq_some_iff.mp h
  split at h
  rotate_left
  ·
   cases h
  rename_i hg
  obtain ⟨rfl, g1, g2⟩ := hg
  obtain ⟨b2, hb2, h⟩ := Option.bind_eq_some_iff.mp h
  split at h
  rotate_left
  ·
   cases h
  rename_i hg
  subst hg
  have HS := Aside0.mk hs
  have HT := Aside0.mk ht
  have HE := Aside0.mk hb
  have HF := Aside0.mk hb2
  have HH := Aside0.mk h
  clear hs ht hb hb2 h hn
  go_enter Try.func3, Try.ntmps3
  go_upto_region 4 with (first | ((with_reducible refine gate_dst (N := 12) rfl ?_); refine Kd.R_lit (Kd.int .i64) (w0 := w) w.heap.size 3 ?hg (N := 12) ?hd (xs := ([] : List Int)) (inner := []) (ok := fun _ => True) (okp := fun _ => True) ?hr ?hp (fun _ hk => hk) trivial HB.out HB.out.size (by simp) ?_; (case hd => rfl); (case hg => rfl); (case hr => first | (go_simp; done) | (go_simp; rfl)); (case hp => exact (Reps.none _ _)); intro v0 w0 ho0 hb0_ hg0 hnew0; have HE0 := Aside0.mk ho0; have HB0 := Aside0.mk hb0_; clear ho0 hb0_ hg0 hnew0) | ((with_reducible refine gate_builtin (b := .append) (xs := #[.tmp 12, .tmp 13]) rfl ?_); at_builtin; refine Kd.R_append_rows (Kd.int .i64) (w0 := w) w.heap.size rfl (.tmp 12) (.tmp 13) 22 3 (.int .i64 0) 8 rfl Try.underlying22 info3 rfl (by decide) (by omega) v0 [] l0 _ _ _ (fun _ => True) (fun _ => False) rfl rfl HE0.out (Kd.C_below HR0.out HB0.out) (fun _ _ h => h) (fun _ h => h.elim) (fun _ _ => trivial) HB0.out HB0.out.size (by simp; omega) ?_; intro v_ w1 ho hb1 hg1 hat; rw [List.nil_append] at ho; have n0_ := Aside0.mk ho; have n1_ := Aside0.mk hb1; clear ho hb1 hg1 hat))
  obtain ⟨A1, c1, rfl⟩ := Kd.R_slice n0_.out
  have HO := n0_
  have HB1 := n1_
  have HC := Aside0.mk (Kd.R_reads' HO.out).2.2
  have HCC := Aside0.mk (Kd.R_reads' HO.out).2.1
  have CT := Aside0.mk (seqs_Sequences.calls k A1 c1 l0 a1 s w1 HC.out HCC.out HS.out)
  clear HS n0_ n1_ HB
  go_upto_region 5 with (go_at_call 8; (with_reducible refine CT.out.mono ?_); rintro e w2 ⟨v2, rfl, hs2, hb2⟩; have n0_ := Aside0.mk hs2; have n1_ := Aside0.mk hb2; clear hs2 hb2)
  obtain ⟨A2, c2, rfl, hc2, hr2⟩ := Kd.S_reads n0_.out
  have HS2 := n0_
  have HB2 := n1_
  have HR2 := Aside0.mk hr2
  have HC2 := Aside0.mk hc2
  have CT2 := Aside0.mk (parquetryref12_Sequences.calls k A0 c0 l0 a1 t w2 (Kd.C_below HR0.out (below_step HB1.out HB2.out)) HC0.out HT.out)
  clear n0_ n1_ hr2 hc2 HT CT HO
  go_upto_region 7 with (first | (go_at_call 10; (with_reducible refine CT2.out.mono ?_); rintro e w3 ⟨v3, rfl, hs3, hb3⟩; obtain ⟨A3, c3, rfl, hc3, hr3⟩ := Kd.S_reads hs3; have HS3 := Aside0.mk (Kd.S_below HS2.out hb3); have HR3 := Aside0.mk hr3; have HC3 := Aside0.mk hc3; have HB3 := Aside0.mk (below_step HB2.out hb3); have HR2b := Aside0.mk (Kd.C_below HR2.out hb3); clear hs3 hb3 hc3 hr3) | (go_at_call 9; (with_reducible refine (parquetryref12_Same.calls k A2 c2 s A3 c3 t true _ ?s1 ?s2 ?s3 ?s4 HE.out).mono ?_); (case s1 => exact HR2b.out); (case s2 => exact HC2.out); (case s3 => exact HR3.out); (case s4 => exact HC3.out); rintro e w4 ⟨rfl, hd⟩; have HS4 := Aside0.mk (Kd.S_below HS3.out hd.below); have HB4 := Aside0.mk (below_step HB3.out hd.below); clear hd))
  clear HS2 HS3 HB2 HB3 CT2 HR2 HR2b HR3 HE
  go_wp2
  go_loopg [7] s.length (fun kx s7 wr => ∃ (ii : Int) (xs : List S28), s7 = .int .i64 ii ∧ Aside0 (ii = (s.length : Int) - kx) ∧ Aside0 (kx ≤ s.length) ∧ Aside0 (xs.length = s.length) ∧ Aside0 (Kd.S k28 28 wr w1.heap.size (fun _ => True) (.slice A2 s.length c2) xs) ∧ Aside0 (Below w1.heap.size w1 wr))
  case atStart => exact ⟨0, s, rfl, ⟨by omega⟩, ⟨Nat.le_refl _⟩, ⟨rfl⟩, HS4, HB4⟩
  case round =>
   clear HS4 HB4
   obtain ⟨ii, xs, rfl, HI, HK, HX, HS, HB⟩ := hrel
   cases gk with
   | zero =>
    have b1 : decide (ii < (s.length : Int)) = false := decide_eq_false (by have := HI.out; omega)
    go_wp2_with (first | (go_at_call 11; (with_reducible refine (parquetryref02_Same.calls k A1 c1 l0 A0 c0 l0 true _ ?s1 ?s2 ?s3 ?s4 HF.out).mono ?_); (case s1 => exact Kd.C_below HC.out HB.out); (case s2 => exact HCC.out); (case s3 => exact Kd.C_below HR0.out (below_step HB1.out HB.out)); (case s4 => exact HC0.out); rintro e w8 ⟨rfl, hd⟩; have m0_ := Aside0.mk (below_step (below_step HB1.out HB.out) hd.below); clear hd) | (go_at_call 7; (with_reducible refine (parquetrylaw12_awake.calls k r _ HH.out).mono ?_); rintro e w9 ⟨rfl, hb9⟩; have m1_ := Aside0.mk (below_step m0_.out hb9); clear hb9))
    go_ret
    exact ⟨rfl, m1_.out⟩
   | succ k1 =>
    have i0 : 0 ≤ ii := by have := HI.out; have := HK.out; omega
    have i1 : ii < (s.length : Int) := by have := HI.out; have := HK.out; omega
    have i2 : ii < 1000000 := by omega
    have b1 : decide (ii < (s.length : Int)) = true := decide_eq_true i1
    have p0 : (0 ≤ ii) = True := eq_true i0
    have p1 : (ii < (s.length : Int)) = True := eq_true i1
    obtain ⟨g, cap, hvv, _⟩ := Kd.S_form HS.out (by have := HX.out; omega)
    have hva : A2 = some ⟨g, 0, none⟩ := by injection hvv
    subst hva
    clear hvv
    obtain ⟨oki, cs, hcl, hM4, hcc, hfr, hoki, hH⟩ := Kd.S_elem HS.out z28 ii i0 i1
    obtain ⟨v3, rfl, g3⟩ := k28_openM hM4
    generalize xs.getD ii.toNat z28 = x at *
    obtain ⟨x0, x1, x2, x3⟩ := x
    dsimp only at g3 hM4 hcc hH
    obtain ⟨A5, c5, rfl⟩ := Kd.R_slice g3
    have ce : wr.cell? ⟨g, ii.toNat * 4 + 3, none⟩ = some (.slice A5 x3.length c5) := hcc 3 _ rfl
    have GH := Aside0.mk hH
    have G3 := Aside0.mk g3
    clear hcl hM4 hcc hfr hoki hH g3
    go_wp2_with ((with_reducible refine gate_builtin (b := .clear) (xs := #[.tmp 34]) rfl ?_); refine clr_event (Kd.int .i64) w1.heap.size rfl rfl (.tmp 34) 22 3 (.int .i64 0) 8 rfl Try.underlying22 info3 rfl (by decide) (.slice A5 x3.length c5) x3 0 oki rfl rfl G3.out ?_; intro w5 ho hg5; have m0_ := Aside0.mk (Kd.H_back (Kd.H_grown GH.out hg5 (fun k e => G3.out.1 k e)) (k28_mkM _ _ _ (⟨x0, x1, x2, List.replicate x3.length 0⟩ : S28) ho) (fun k hk => hk)); have m1_ := Aside0.mk (HB.out.grown hg5 HB.out.size (Kd.R_base G3.out)); clear ho hg5 GH G3 ce)
    go_roundg k1
    case measure => exact Nat.lt_succ_self _
    case rel => exact ⟨ii + 1, _, rfl, ⟨by have := HI.out; have := HK.out; omega⟩, ⟨by have := HK.out; omega⟩, ⟨by rw [List.length_set]; exact HX.out⟩, m0_, m1_⟩
end


/-- THE ONE PURE STATEMENT of parquetrylaw12_SeqsFound: yours. -/
def parquetrylaw12_SeqsFound.Pure : Prop := ∀ (l0 : List Int) (a1 : Int), l0.length ≤ maxLen → l0.length * 8 ≤ 140737488351232 → (∀ x ∈ l0, (Lit.int .i64 x).wf = true) → (Lit.int .i64 a1).wf = true → ∃ k, parquetrylaw12_SeqsFound.f k l0 a1 = some true
theorem parquetrylaw12_SeqsFound.walk (P : parquetrylaw12_SeqsFound.Pure) (a0 : Option Addr) (len0 cap0 : Nat) (z0 : List Int) (a1 : Int) (w : World) (w0 : (a0 = none ∧ len0 = 0 ∧ cap0 = 0 ∧ z0 = []) ∨ ∃ x, a0 = some x ∧ len0 ≤ cap0 ∧ cap0 ≤ maxLen ∧ z0.length = cap0 ∧ (∀ i, i < z0.length → w.cell? (x.add i) = some (.int .i64 (z0.getD i 0))) ∧ ∀ n ∈ z0, (Lit.int .i64 n).wf = true) (y0 : len0 * 8 ≤ 140737488351232) (w1 : (Lit.int .i64 a1).wf = true) :
  Calls Try.prog 3 #[.slice a0 len0 cap0, .int .i64 a1] w fun e w' => e = .returned (.bool true) ∧ Below w.heap.size w w' := by
 obtain ⟨l0, rfl, hr0, hm0, hw0, hc0⟩ := ReadsInt.ofRowC w0
 obtain ⟨k, h⟩ := P l0 a1 hm0 y0 hw0 w1
 refine (parquetrylaw12_SeqsFound.calls k _ _ l0 a1 true w (Kd.C_of_reads (d := (0 : Int)) (h1 := fun _ => rfl) hr0) hc0 h).mono ?_
 rintro e w' ⟨rfl, hd⟩
 exact ⟨rfl, hd⟩

end Go.Proofs.Ytdieknpikdepgaa.PC12
