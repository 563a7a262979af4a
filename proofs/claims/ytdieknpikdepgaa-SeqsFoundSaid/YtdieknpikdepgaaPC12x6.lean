/- For the laws of the group C12: the Lean functions that the Go functions compute, and proofs that they do. Written by wip/hprint.py of this repo over the kit's printer; nothing here is trusted: Lean checks it. -/
import Derived.Test.YtdieknpikdepgaaPC12x0
import Derived.Test.YtdieknpikdepgaaPC12x4
import Derived.Test.YtdieknpikdepgaaPC12x5
namespace Go.Proofs.Ytdieknpikdepgaa.PC12
open Go.RowKit Go.Proofs.YtdieknpikdepgaaW.PrintWords Go.Proofs.YtdieknpikdepgaaW.PrintLast Go.Proofs.YtdieknpikdepgaaW.PrintMore
attribute [local go_sem] max2_int min2_int max_two min_two max_three min_three max_four min_four   -- for this text's walks alone
set_option linter.unusedVariables false
set_option linter.unusedSimpArgs false

/-! ### parquetrylaw12_awake: function 7: by hand -/
def parquetrylaw12_awake.f (k : Nat) : Option Bool := some true
theorem parquetrylaw12_awake.mono : ∀ k, LeO (parquetrylaw12_awake.f k) (parquetrylaw12_awake.f (k + 1)) := fun _ => LeO.refl _
section
open Go.Proofs.YtdieknpikdepgaaH
def parquetrylaw12_awake.ra : List S28 := [⟨0, 0, 0, [0, 1, 3, 4]⟩, ⟨1, 1, 1, [2]⟩]
theorem parquetrylaw12_awake.at_a : seqs_Sequences.f 60 [0, 20, 1, 22, 0] 0 = some parquetrylaw12_awake.ra := by kernel_rfl
def parquetrylaw12_awake.rb : List S28 := [⟨1, 1, 1, [1]⟩, ⟨0, 1, 0, [3]⟩]
theorem parquetrylaw12_awake.at_b : seqs_Sequences.f 60 [16, 1, 18, 3] 0 = some parquetrylaw12_awake.rb := by kernel_rfl
def parquetrylaw12_awake.rc : List S28 := [⟨1, 1, 1, [0, 1]⟩, ⟨2, 0, 0, [2]⟩]
theorem parquetrylaw12_awake.at_c : seqs_Sequences.f 60 [0, 19, 3] 1 = some parquetrylaw12_awake.rc := by kernel_rfl
def parquetrylaw12_awake.rd : List S28 := []
theorem parquetrylaw12_awake.at_d : seqs_Sequences.f 60 [9] 0 = some parquetrylaw12_awake.rd := by kernel_rfl
def parquetrylaw12_awake.re : List S28 := []
theorem parquetrylaw12_awake.at_e : seqs_Sequences.f 60 [0] 2 = some parquetrylaw12_awake.re := by kernel_rfl
theorem parquetrylaw12_awake.same_a : parquetryref12_Same.f 60 parquetrylaw12_awake.ra parquetrylaw12_awake.ra = some true := by kernel_rfl
theorem parquetrylaw12_awake.same_b : parquetryref12_Same.f 60 parquetrylaw12_awake.rb parquetrylaw12_awake.rb = some true := by kernel_rfl
theorem parquetrylaw12_awake.same_c : parquetryref12_Same.f 60 parquetrylaw12_awake.rc parquetrylaw12_awake.rc = some true := by kernel_rfl
theorem parquetrylaw12_awake.lit_C (W : World) (g t : Nat) (l : List Int) (h : W.heap[g]? = some (.cells (nums .i64 l).toArray t (0, 0))) (hl : l.length ≤ 1000) : Kd.C (Kd.int .i64) W (some ⟨g, 0, none⟩) l.length l := by
 refine Kd.C_of_reads (d := (0 : Int)) (h1 := fun _ => rfl) ⟨rfl, by omega, fun _ => ⟨_, rfl, fun j hj => ?_⟩⟩
 have e : (⟨g, 0, none⟩ : Addr).add j = ⟨g, j, none⟩ := by
  by_cases h0 : j = 0
  ·
   rw [h0]; rfl
  ·
   simp [Addr.add, h0]
 rw [e]
 exact nums_cell W g t l h j hj
/-- Two sequences written out. -/
theorem parquetrylaw12_awake.two {W : World} {g : Nat} {a0 a1 a2 b0 b1 b2 : Int} {la lb : List Int} {A B : Option Addr} {ca cb : Nat} (h : W.heap[g]? = some (.cells #[.int .i64 a0, .int .i64 a1, .int .i64 a2, .slice A la.length ca, .int .i64 b0, .int .i64 b1, .int .i64 b2, .slice B lb.length cb] 28 (0, 0)))
  (hA : Kd.C (Kd.int .i64) W A la.length la) (hB : Kd.C (Kd.int .i64) W B lb.length lb) (ka : la.length ≤ ca) (kb : lb.length ≤ cb) : Kd.C k28 W (some ⟨g, 0, none⟩) 2 [⟨a0, a1, a2, la⟩, ⟨b0, b1, b2, lb⟩] := by
 refine ⟨rfl, by omega, fun _ => ⟨_, rfl, fun j p hj => ?_⟩⟩
 have e : ∀ m, (⟨g, 0, none⟩ : Addr).add m = ⟨g, m, none⟩ := fun m => by
  by_cases h0 : m = 0
  ·
   rw [h0]; rfl
  ·
   simp [Addr.add, h0]
 match j, hj with
 | 0, hj =>
  obtain rfl := Option.some.inj hj
  refine ⟨_, rfl, k28_mk W (⟨a0, a1, a2, la⟩ : S28) ka hA, fun i u hu => ?_⟩
  rw [e, blk_cell h]
  match i, hu with
  | 0, hu => exact hu
  | 1, hu => exact hu
  | 2, hu => exact hu
  | 3, hu => exact hu
 | 1, hj =>
  obtain rfl := Option.some.inj hj
  refine ⟨_, rfl, k28_mk W (⟨b0, b1, b2, lb⟩ : S28) kb hB, fun i u hu => ?_⟩
  rw [e, blk_cell h]
  match i, hu with
  | 0, hu => exact hu
  | 1, hu => exact hu
  | 2, hu => exact hu
  | 3, hu => exact hu
 | n + 2, hj => simp at hj
theorem parquetrylaw12_awake.seq (a b c : Int) (A : Option Addr) (n m : Nat) (w : World) : Calls Try.prog 16 #[.int .i64 a, .int .i64 b, .int .i64 c, .slice A n m] w fun e w' => e = .returned (.agg #[.int .i64 a, .int .i64 b, .int .i64 c, .slice A n m]) ∧ Below w.heap.size w w' := by
 go_enter Try.func16, Try.ntmps16
 go_wp2
 refine bodyPost_ret (results_cell_row rfl _ _ w.heap.size 28 #[.int .i64 a, .int .i64 b, .int .i64 c, .slice A n m] (0, 0) _ rfl (blk_new _ _) Try.underlying28 rfl (by kernel_rfl)) rfl ?_
 exact ⟨rfl, below_alloc (Below.refl _ _) _⟩
set_option maxHeartbeats 4000000 in
set_option maxRecDepth 100000 in
theorem parquetrylaw12_awake.calls (k : Nat) (r : Bool) (w : World) (h : parquetrylaw12_awake.f k = some r) : Calls Try.prog 7 #[] w fun e w' => e = .returned (.bool r) ∧ Below w.heap.size w w' := by
 obtain rfl : true = r := Option.some.inj h
 clear h
 have HB := Aside0.mk (Below.refl w.heap.size w)
 go_enter Try.func7, Try.ntmps7
 go_upto_region 1 with (fail)
 refine wp_region_list ?_
 refine Kd.event_run (w1 := w.alloc (.cells #[.int .i64 0, .int .i64 20, .int .i64 1, .int .i64 22, .int .i64 0] 3)) (v := .slice (some ⟨w.heap.size, 0, none⟩) 5 5) rfl (by kernel_rfl) ?_
 simp only [Act.put, List.setIfInBounds_toArray, List.set_cons_succ, List.set_cons_zero]
 obtain ⟨w1, hW_⟩ : ∃ W_, w.alloc (.cells #[.int .i64 0, .int .i64 20, .int .i64 1, .int .i64 22, .int .i64 0] 3) = W_ := ⟨_, rfl⟩
 have hb : Below w.heap.size w w1 := by rw [← hW_]; exact below_alloc (Below.refl _ _) _
 have hI : Aside0 (Kd.C (Kd.int .i64) w1 (some ⟨w.heap.size, 0, none⟩) 5 [0, 20, 1, 22, 0]) := ⟨by rw [← hW_]; exact parquetrylaw12_awake.lit_C _ _ _ [0, 20, 1, 22, 0] (blk_new _ _) (by decide)⟩
 rw [hW_]
 have nB_ := Aside0.mk (below_step HB.out hb)
 clear HB 
 have HB := nB_
 clear nB_ 
 clear hW_ hb
 generalize w.heap.size = gx at hI ⊢
 have Hx := hI
 clear hI
 refine goesL_ (some 5) rfl rfl Try.func8 (by kernel_rfl) rfl #[.slice (some ⟨gx, 0, none⟩) 5 5, .int .i64 0] rfl (by kernel_rfl) ?_
 refine (seqs_Sequences.calls 60 (some ⟨gx, 0, none⟩) 5 [0, 20, 1, 22, 0] 0 parquetrylaw12_awake.ra _ Hx.out (Nat.le_refl _) parquetrylaw12_awake.at_a).mono ?_
 rintro e w2 ⟨v_, rfl, hS, hb⟩
 obtain ⟨Aa, ca, rfl, hc_, hr_⟩ := Kd.S_reads hS
 refine ⟨_, rfl, ?_⟩
 simp only [Act.put, List.setIfInBounds_toArray, List.set_cons_succ, List.set_cons_zero]
 clear Hx hS
 have nB_ := Aside0.mk (below_step HB.out hb)
 clear HB 
 have HB := nB_
 clear nB_ 
 clear hb
 have Ha := Aside0.mk hr_
 have HCa := Aside0.mk hc_
 clear hr_ hc_
 refine Kd.event_run (w1 := w2) (v := (.slice Aa parquetrylaw12_awake.ra.length ca : Value)) rfl (by kernel_rfl) ?_
 simp only [Act.put, List.setIfInBounds_toArray, List.set_cons_succ, List.set_cons_zero]
 refine wpList_nil ?_
 go_upto_region 2 with (fail)
 refine wp_region_list ?_
 refine Kd.event_run (w1 := w2.alloc (.cells #[.int .i64 16, .int .i64 1, .int .i64 18, .int .i64 3] 3)) (v := .slice (some ⟨w2.heap.size, 0, none⟩) 4 4) rfl (by kernel_rfl) ?_
 simp only [Act.put, List.setIfInBounds_toArray, List.set_cons_succ, List.set_cons_zero]
 obtain ⟨w3, hW_⟩ : ∃ W_, w2.alloc (.cells #[.int .i64 16, .int .i64 1, .int .i64 18, .int .i64 3] 3) = W_ := ⟨_, rfl⟩
 have hb : Below w2.heap.size w2 w3 := by rw [← hW_]; exact below_alloc (Below.refl _ _) _
 have hI : Aside0 (Kd.C (Kd.int .i64) w3 (some ⟨w2.heap.size, 0, none⟩) 4 [16, 1, 18, 3]) := ⟨by rw [← hW_]; exact parquetrylaw12_awake.lit_C _ _ _ [16, 1, 18, 3] (blk_new _ _) (by decide)⟩
 rw [hW_]
 have nB_ := Aside0.mk (below_step HB.out hb)
 have na_ := Aside0.mk (Kd.C_below Ha.out hb)
 clear HB Ha
 have HB := nB_
 have Ha := na_
 clear nB_ na_
 clear hW_ hb
 generalize w2.heap.size = gx at hI ⊢
 have Hx := hI
 clear hI
 refine goesL_ (some 7) rfl rfl Try.func8 (by kernel_rfl) rfl #[.slice (some ⟨gx, 0, none⟩) 4 4, .int .i64 0] rfl (by kernel_rfl) ?_
 refine (seqs_Sequences.calls 60 (some ⟨gx, 0, none⟩) 4 [16, 1, 18, 3] 0 parquetrylaw12_awake.rb _ Hx.out (Nat.le_refl _) parquetrylaw12_awake.at_b).mono ?_
 rintro e w4 ⟨v_, rfl, hS, hb⟩
 obtain ⟨Ab, cb, rfl, hc_, hr_⟩ := Kd.S_reads hS
 refine ⟨_, rfl, ?_⟩
 simp only [Act.put, List.setIfInBounds_toArray, List.set_cons_succ, List.set_cons_zero]
 clear Hx hS
 have nB_ := Aside0.mk (below_step HB.out hb)
 have na_ := Aside0.mk (Kd.C_below Ha.out hb)
 clear HB Ha
 have HB := nB_
 have Ha := na_
 clear nB_ na_
 clear hb
 have Hb := Aside0.mk hr_
 have HCb := Aside0.mk hc_
 clear hr_ hc_
 refine Kd.event_run (w1 := w4) (v := (.slice Ab parquetrylaw12_awake.rb.length cb : Value)) rfl (by kernel_rfl) ?_
 simp only [Act.put, List.setIfInBounds_toArray, List.set_cons_succ, List.set_cons_zero]
 refine wpList_nil ?_
 go_upto_region 3 with (fail)
 refine wp_region_list ?_
 refine Kd.event_run (w1 := w4.alloc (.cells #[.int .i64 0, .int .i64 19, .int .i64 3] 3)) (v := .slice (some ⟨w4.heap.size, 0, none⟩) 3 3) rfl (by kernel_rfl) ?_
 simp only [Act.put, List.setIfInBounds_toArray, List.set_cons_succ, List.set_cons_zero]
 obtain ⟨w5, hW_⟩ : ∃ W_, w4.alloc (.cells #[.int .i64 0, .int .i64 19, .int .i64 3] 3) = W_ := ⟨_, rfl⟩
 have hb : Below w4.heap.size w4 w5 := by rw [← hW_]; exact below_alloc (Below.refl _ _) _
 have hI : Aside0 (Kd.C (Kd.int .i64) w5 (some ⟨w4.heap.size, 0, none⟩) 3 [0, 19, 3]) := ⟨by rw [← hW_]; exact parquetrylaw12_awake.lit_C _ _ _ [0, 19, 3] (blk_new _ _) (by decide)⟩
 rw [hW_]
 have nB_ := Aside0.mk (below_step HB.out hb)
 have na_ := Aside0.mk (Kd.C_below Ha.out hb)
 have nb_ := Aside0.mk (Kd.C_below Hb.out hb)
 clear HB Ha Hb
 have HB := nB_
 have Ha := na_
 have Hb := nb_
 clear nB_ na_ nb_
 clear hW_ hb
 generalize w4.heap.size = gx at hI ⊢
 have Hx := hI
 clear hI
 refine goesL_ (some 9) rfl rfl Try.func8 (by kernel_rfl) rfl #[.slice (some ⟨gx, 0, none⟩) 3 3, .int .i64 1] rfl (by kernel_rfl) ?_
 refine (seqs_Sequences.calls 60 (some ⟨gx, 0, none⟩) 3 [0, 19, 3] 1 parquetrylaw12_awake.rc _ Hx.out (Nat.le_refl _) parquetrylaw12_awake.at_c).mono ?_
 rintro e w6 ⟨v_, rfl, hS, hb⟩
 obtain ⟨Ac, cc, rfl, hc_, hr_⟩ := Kd.S_reads hS
 refine ⟨_, rfl, ?_⟩
 simp only [Act.put, List.setIfInBounds_toArray, List.set_cons_succ, List.set_cons_zero]
 clear Hx hS
 have nB_ := Aside0.mk (below_step HB.out hb)
 have na_ := Aside0.mk (Kd.C_below Ha.out hb)
 have nb_ := Aside0.mk (Kd.C_below Hb.out hb)
 clear HB Ha Hb
 have HB := nB_
 have Ha := na_
 have Hb := nb_
 clear nB_ na_ nb_
 clear hb
 have Hc := Aside0.mk hr_
 have HCc := Aside0.mk hc_
 clear hr_ hc_
 refine Kd.event_run (w1 := w6) (v := (.slice Ac parquetrylaw12_awake.rc.length cc : Value)) rfl (by kernel_rfl) ?_
 simp only [Act.put, List.setIfInBounds_toArray, List.set_cons_succ, List.set_cons_zero]
 refine wpList_nil ?_
 go_upto_region 4 with (fail)
 refine wp_region_list ?_
 refine Kd.event_run (w1 := w6) (v := (.slice Aa parquetrylaw12_awake.ra.length ca : Value)) rfl (by kernel_rfl) ?_
 simp only [Act.put, List.setIfInBounds_toArray, List.set_cons_succ, List.set_cons_zero]
 refine Kd.event_run (w1 := w6.alloc (.cells #[.int .i64 0, .int .i64 1, .int .i64 3, .int .i64 4] 3)) (v := .slice (some ⟨w6.heap.size, 0, none⟩) 4 4) rfl (by kernel_rfl) ?_
 simp only [Act.put, List.setIfInBounds_toArray, List.set_cons_succ, List.set_cons_zero]
 obtain ⟨w7, hW_⟩ : ∃ W_, w6.alloc (.cells #[.int .i64 0, .int .i64 1, .int .i64 3, .int .i64 4] 3) = W_ := ⟨_, rfl⟩
 have hb : Below w6.heap.size w6 w7 := by rw [← hW_]; exact below_alloc (Below.refl _ _) _
 have hI : Aside0 (Kd.C (Kd.int .i64) w7 (some ⟨w6.heap.size, 0, none⟩) 4 [0, 1, 3, 4]) := ⟨by rw [← hW_]; exact parquetrylaw12_awake.lit_C _ _ _ [0, 1, 3, 4] (blk_new _ _) (by decide)⟩
 rw [hW_]
 have nB_ := Aside0.mk (below_step HB.out hb)
 have na_ := Aside0.mk (Kd.C_below Ha.out hb)
 have nb_ := Aside0.mk (Kd.C_below Hb.out hb)
 have nc_ := Aside0.mk (Kd.C_below Hc.out hb)
 clear HB Ha Hb Hc
 have HB := nB_
 have Ha := na_
 have Hb := nb_
 have Hc := nc_
 clear nB_ na_ nb_ nc_
 clear hW_ hb
 generalize w6.heap.size = gy at hI ⊢
 have Hy := hI
 clear hI
 refine goesL_ (some 12) rfl rfl Try.func16 (by kernel_rfl) rfl #[.int .i64 0, .int .i64 0, .int .i64 0, .slice (some ⟨gy, 0, none⟩) 4 4] rfl (by kernel_rfl) ?_
 refine (parquetrylaw12_awake.seq 0 0 0 (some ⟨gy, 0, none⟩) 4 4 _).mono ?_
 rintro e w8 ⟨rfl, hb⟩
 refine ⟨_, rfl, ?_⟩
 simp only [Act.put, List.setIfInBounds_toArray, List.set_cons_succ, List.set_cons_zero]
 have nB_ := Aside0.mk (below_step HB.out hb)
 have na_ := Aside0.mk (Kd.C_below Ha.out hb)
 have nb_ := Aside0.mk (Kd.C_below Hb.out hb)
 have nc_ := Aside0.mk (Kd.C_below Hc.out hb)
 have ny_ := Aside0.mk (Kd.C_below Hy.out hb)
 clear HB Ha Hb Hc Hy
 have HB := nB_
 have Ha := na_
 have Hb := nb_
 have Hc := nc_
 have Hy := ny_
 clear nB_ na_ nb_ nc_ ny_
 clear hb
 refine Kd.event_run (w1 := w8.alloc (.cells #[.int .i64 2] 3)) (v := .slice (some ⟨w8.heap.size, 0, none⟩) 1 1) rfl (by kernel_rfl) ?_
 simp only [Act.put, List.setIfInBounds_toArray, List.set_cons_succ, List.set_cons_zero]
 obtain ⟨w9, hW_⟩ : ∃ W_, w8.alloc (.cells #[.int .i64 2] 3) = W_ := ⟨_, rfl⟩
 have hb : Below w8.heap.size w8 w9 := by rw [← hW_]; exact below_alloc (Below.refl _ _) _
 have hI : Aside0 (Kd.C (Kd.int .i64) w9 (some ⟨w8.heap.size, 0, none⟩) 1 [2]) := ⟨by rw [← hW_]; exact parquetrylaw12_awake.lit_C _ _ _ [2] (blk_new _ _) (by decide)⟩
 rw [hW_]
 have nB_ := Aside0.mk (below_step HB.out hb)
 have na_ := Aside0.mk (Kd.C_below Ha.out hb)
 have nb_ := Aside0.mk (Kd.C_below Hb.out hb)
 have nc_ := Aside0.mk (Kd.C_below Hc.out hb)
 have ny_ := Aside0.mk (Kd.C_below Hy.out hb)
 clear HB Ha Hb Hc Hy
 have HB := nB_
 have Ha := na_
 have Hb := nb_
 have Hc := nc_
 have Hy := ny_
 clear nB_ na_ nb_ nc_ ny_
 clear hW_ hb
 generalize w8.heap.size = gz at hI ⊢
 have Hz := hI
 clear hI
 refine goesL_ (some 14) rfl rfl Try.func16 (by kernel_rfl) rfl #[.int .i64 1, .int .i64 1, .int .i64 1, .slice (some ⟨gz, 0, none⟩) 1 1] rfl (by kernel_rfl) ?_
 refine (parquetrylaw12_awake.seq 1 1 1 (some ⟨gz, 0, none⟩) 1 1 _).mono ?_
 rintro e w10 ⟨rfl, hb⟩
 refine ⟨_, rfl, ?_⟩
 simp only [Act.put, List.setIfInBounds_toArray, List.set_cons_succ, List.set_cons_zero]
 have nB_ := Aside0.mk (below_step HB.out hb)
 have na_ := Aside0.mk (Kd.C_below Ha.out hb)
 have nb_ := Aside0.mk (Kd.C_below Hb.out hb)
 have nc_ := Aside0.mk (Kd.C_below Hc.out hb)
 have ny_ := Aside0.mk (Kd.C_below Hy.out hb)
 have nz_ := Aside0.mk (Kd.C_below Hz.out hb)
 clear HB Ha Hb Hc Hy Hz
 have HB := nB_
 have Ha := na_
 have Hb := nb_
 have Hc := nc_
 have Hy := ny_
 have Hz := nz_
 clear nB_ na_ nb_ nc_ ny_ nz_
 clear hb
 refine Kd.event_run (w1 := w10.alloc (.cells #[.int .i64 0, .int .i64 0, .int .i64 0, .slice (some ⟨gy, 0, none⟩) 4 4, .int .i64 1, .int .i64 1, .int .i64 1, .slice (some ⟨gz, 0, none⟩) 1 1] 28)) (v := .slice (some ⟨w10.heap.size, 0, none⟩) 2 2) rfl (by kernel_rfl) ?_
 simp only [Act.put, List.setIfInBounds_toArray, List.set_cons_succ, List.set_cons_zero]
 obtain ⟨w11, hW_⟩ : ∃ W_, w10.alloc (.cells #[.int .i64 0, .int .i64 0, .int .i64 0, .slice (some ⟨gy, 0, none⟩) 4 4, .int .i64 1, .int .i64 1, .int .i64 1, .slice (some ⟨gz, 0, none⟩) 1 1] 28) = W_ := ⟨_, rfl⟩
 have hb : Below w10.heap.size w10 w11 := by rw [← hW_]; exact below_alloc (Below.refl _ _) _
 have hI : Aside0 (Kd.C k28 w11 (some ⟨w10.heap.size, 0, none⟩) 2 parquetrylaw12_awake.ra) := ⟨parquetrylaw12_awake.two (la := [0, 1, 3, 4]) (lb := [2]) (by rw [← hW_]; exact blk_new _ _) (Kd.C_below Hy.out hb) (Kd.C_below Hz.out hb) (Nat.le_refl _) (Nat.le_refl _)⟩
 rw [hW_]
 clear Hy Hz
 have nB_ := Aside0.mk (below_step HB.out hb)
 have na_ := Aside0.mk (Kd.C_below Ha.out hb)
 have nb_ := Aside0.mk (Kd.C_below Hb.out hb)
 have nc_ := Aside0.mk (Kd.C_below Hc.out hb)
 clear HB Ha Hb Hc
 have HB := nB_
 have Ha := na_
 have Hb := nb_
 have Hc := nc_
 clear nB_ na_ nb_ nc_
 clear hW_ hb
 generalize w10.heap.size = gp at hI ⊢
 have Hp := hI
 clear hI
 refine goesL_ (some 16) rfl rfl Try.func9 (by kernel_rfl) rfl #[.slice Aa parquetrylaw12_awake.ra.length ca, .slice (some ⟨gp, 0, none⟩) 2 2] rfl (by kernel_rfl) ?_
 refine (parquetryref12_Same.calls 60 Aa ca parquetrylaw12_awake.ra (some ⟨gp, 0, none⟩) 2 parquetrylaw12_awake.ra true _ Ha.out HCa.out Hp.out (Nat.le_refl _) parquetrylaw12_awake.same_a).mono ?_
 rintro e w12 ⟨rfl, hd⟩
 have hb := hd.below
 clear hd
 refine ⟨_, rfl, ?_⟩
 simp only [Act.put, List.setIfInBounds_toArray, List.set_cons_succ, List.set_cons_zero]
 clear Hp Ha HCa
 have nB_ := Aside0.mk (below_step HB.out hb)
 have nb_ := Aside0.mk (Kd.C_below Hb.out hb)
 have nc_ := Aside0.mk (Kd.C_below Hc.out hb)
 clear HB Hb Hc
 have HB := nB_
 have Hb := nb_
 have Hc := nc_
 clear nB_ nb_ nc_
 clear hb
 refine Kd.event_run (w1 := w12) (v := .bool true) rfl (by kernel_rfl) ?_
 simp only [Act.put, List.setIfInBounds_toArray, List.set_cons_succ, List.set_cons_zero]
 refine gate_guard (by kernel_rfl) ?_
 dsimp only
 refine Kd.event_run (w1 := w12) (v := (.slice Ab parquetrylaw12_awake.rb.length cb : Value)) rfl (by kernel_rfl) ?_
 simp only [Act.put, List.setIfInBounds_toArray, List.set_cons_succ, List.set_cons_zero]
 refine gate_guard (by kernel_rfl) ?_
 dsimp only
 refine Kd.event_run (w1 := w12.alloc (.cells #[.int .i64 1] 3)) (v := .slice (some ⟨w12.heap.size, 0, none⟩) 1 1) rfl (by kernel_rfl) ?_
 simp only [Act.put, List.setIfInBounds_toArray, List.set_cons_succ, List.set_cons_zero]
 obtain ⟨w13, hW_⟩ : ∃ W_, w12.alloc (.cells #[.int .i64 1] 3) = W_ := ⟨_, rfl⟩
 have hb : Below w12.heap.size w12 w13 := by rw [← hW_]; exact below_alloc (Below.refl _ _) _
 have hI : Aside0 (Kd.C (Kd.int .i64) w13 (some ⟨w12.heap.size, 0, none⟩) 1 [1]) := ⟨by rw [← hW_]; exact parquetrylaw12_awake.lit_C _ _ _ [1] (blk_new _ _) (by decide)⟩
 rw [hW_]
 have nB_ := Aside0.mk (below_step HB.out hb)
 have nb_ := Aside0.mk (Kd.C_below Hb.out hb)
 have nc_ := Aside0.mk (Kd.C_below Hc.out hb)
 clear HB Hb Hc
 have HB := nB_
 have Hb := nb_
 have Hc := nc_
 clear nB_ nb_ nc_
 clear hW_ hb
 generalize w12.heap.size = gy at hI ⊢
 have Hy := hI
 clear hI
 refine gate_guard (by kernel_rfl) ?_
 dsimp only
 refine goesL_ (some 20) rfl rfl Try.func16 (by kernel_rfl) rfl #[.int .i64 1, .int .i64 1, .int .i64 1, .slice (some ⟨gy, 0, none⟩) 1 1] rfl (by kernel_rfl) ?_
 refine (parquetrylaw12_awake.seq 1 1 1 (some ⟨gy, 0, none⟩) 1 1 _).mono ?_
 rintro e w14 ⟨rfl, hb⟩
 refine ⟨_, rfl, ?_⟩
 simp only [Act.put, List.setIfInBounds_toArray, List.set_cons_succ, List.set_cons_zero]
 have nB_ := Aside0.mk (below_step HB.out hb)
 have nb_ := Aside0.mk (Kd.C_below Hb.out hb)
 have nc_ := Aside0.mk (Kd.C_below Hc.out hb)
 have ny_ := Aside0.mk (Kd.C_below Hy.out hb)
 clear HB Hb Hc Hy
 have HB := nB_
 have Hb := nb_
 have Hc := nc_
 have Hy := ny_
 clear nB_ nb_ nc_ ny_
 clear hb
 refine gate_guard (by kernel_rfl) ?_
 dsimp only
 refine Kd.event_run (w1 := w14.alloc (.cells #[.int .i64 3] 3)) (v := .slice (some ⟨w14.heap.size, 0, none⟩) 1 1) rfl (by kernel_rfl) ?_
 simp only [Act.put, List.setIfInBounds_toArray, List.set_cons_succ, List.set_cons_zero]
 obtain ⟨w15, hW_⟩ : ∃ W_, w14.alloc (.cells #[.int .i64 3] 3) = W_ := ⟨_, rfl⟩
 have hb : Below w14.heap.size w14 w15 := by rw [← hW_]; exact below_alloc (Below.refl _ _) _
 have hI : Aside0 (Kd.C (Kd.int .i64) w15 (some ⟨w14.heap.size, 0, none⟩) 1 [3]) := ⟨by rw [← hW_]; exact parquetrylaw12_awake.lit_C _ _ _ [3] (blk_new _ _) (by decide)⟩
 rw [hW_]
 have nB_ := Aside0.mk (below_step HB.out hb)
 have nb_ := Aside0.mk (Kd.C_below Hb.out hb)
 have nc_ := Aside0.mk (Kd.C_below Hc.out hb)
 have ny_ := Aside0.mk (Kd.C_below Hy.out hb)
 clear HB Hb Hc Hy
 have HB := nB_
 have Hb := nb_
 have Hc := nc_
 have Hy := ny_
 clear nB_ nb_ nc_ ny_
 clear hW_ hb
 generalize w14.heap.size = gz at hI ⊢
 have Hz := hI
 clear hI
 refine gate_guard (by kernel_rfl) ?_
 dsimp only
 refine goesL_ (some 22) rfl rfl Try.func16 (by kernel_rfl) rfl #[.int .i64 0, .int .i64 1, .int .i64 0, .slice (some ⟨gz, 0, none⟩) 1 1] rfl (by kernel_rfl) ?_
 refine (parquetrylaw12_awake.seq 0 1 0 (some ⟨gz, 0, none⟩) 1 1 _).mono ?_
 rintro e w16 ⟨rfl, hb⟩
 refine ⟨_, rfl, ?_⟩
 simp only [Act.put, List.setIfInBounds_toArray, List.set_cons_succ, List.set_cons_zero]
 have nB_ := Aside0.mk (below_step HB.out hb)
 have nb_ := Aside0.mk (Kd.C_below Hb.out hb)
 have nc_ := Aside0.mk (Kd.C_below Hc.out hb)
 have ny_ := Aside0.mk (Kd.C_below Hy.out hb)
 have nz_ := Aside0.mk (Kd.C_below Hz.out hb)
 clear HB Hb Hc Hy Hz
 have HB := nB_
 have Hb := nb_
 have Hc := nc_
 have Hy := ny_
 have Hz := nz_
 clear nB_ nb_ nc_ ny_ nz_
 clear hb
 refine gate_guard (by kernel_rfl) ?_
 dsimp only
 refine Kd.event_run (w1 := w16.alloc (.cells #[.int .i64 1, .int .i64 1, .int .i64 1, .slice (some ⟨gy, 0, none⟩) 1 1, .int .i64 0, .int .i64 1, .int .i64 0, .slice (some ⟨gz, 0, none⟩) 1 1] 28)) (v := .slice (some ⟨w16.heap.size, 0, none⟩) 2 2) rfl (by kernel_rfl) ?_
 simp only [Act.put, List.setIfInBounds_toArray, List.set_cons_succ, List.set_cons_zero]
 obtain ⟨w17, hW_⟩ : ∃ W_, w16.alloc (.cells #[.int .i64 1, .int .i64 1, .int .i64 1, .slice (some ⟨gy, 0, none⟩) 1 1, .int .i64 0, .int .i64 1, .int .i64 0, .slice (some ⟨gz, 0, none⟩) 1 1] 28) = W_ := ⟨_, rfl⟩
 have hb : Below w16.heap.size w16 w17 := by rw [← hW_]; exact below_alloc (Below.refl _ _) _
 have hI : Aside0 (Kd.C k28 w17 (some ⟨w16.heap.size, 0, none⟩) 2 parquetrylaw12_awake.rb) := ⟨parquetrylaw12_awake.two (la := [1]) (lb := [3]) (by rw [← hW_]; exact blk_new _ _) (Kd.C_below Hy.out hb) (Kd.C_below Hz.out hb) (Nat.le_refl _) (Nat.le_refl _)⟩
 rw [hW_]
 clear Hy Hz
 have nB_ := Aside0.mk (below_step HB.out hb)
 have nb_ := Aside0.mk (Kd.C_below Hb.out hb)
 have nc_ := Aside0.mk (Kd.C_below Hc.out hb)
 clear HB Hb Hc
 have HB := nB_
 have Hb := nb_
 have Hc := nc_
 clear nB_ nb_ nc_
 clear hW_ hb
 generalize w16.heap.size = gp at hI ⊢
 have Hp := hI
 clear hI
 refine gate_guard (by kernel_rfl) ?_
 dsimp only
 refine goesL_ (some 24) rfl rfl Try.func9 (by kernel_rfl) rfl #[.slice Ab parquetrylaw12_awake.rb.length cb, .slice (some ⟨gp, 0, none⟩) 2 2] rfl (by kernel_rfl) ?_
 refine (parquetryref12_Same.calls 60 Ab cb parquetrylaw12_awake.rb (some ⟨gp, 0, none⟩) 2 parquetrylaw12_awake.rb true _ Hb.out HCb.out Hp.out (Nat.le_refl _) parquetrylaw12_awake.same_b).mono ?_
 rintro e w18 ⟨rfl, hd⟩
 have hb := hd.below
 clear hd
 refine ⟨_, rfl, ?_⟩
 simp only [Act.put, List.setIfInBounds_toArray, List.set_cons_succ, List.set_cons_zero]
 clear Hp Hb HCb
 have nB_ := Aside0.mk (below_step HB.out hb)
 have nc_ := Aside0.mk (Kd.C_below Hc.out hb)
 clear HB Hc
 have HB := nB_
 have Hc := nc_
 clear nB_ nc_
 clear hb
 refine Kd.event_run (w1 := w18) (v := .bool true) rfl (by kernel_rfl) ?_
 simp only [Act.put, List.setIfInBounds_toArray, List.set_cons_succ, List.set_cons_zero]
 refine Kd.event_run (w1 := w18) (v := .bool true) rfl (by kernel_rfl) ?_
 simp only [Act.put, List.setIfInBounds_toArray, List.set_cons_succ, List.set_cons_zero]
 refine gate_guard (by kernel_rfl) ?_
 dsimp only
 refine Kd.event_run (w1 := w18) (v := (.slice Ac parquetrylaw12_awake.rc.length cc : Value)) rfl (by kernel_rfl) ?_
 simp only [Act.put, List.setIfInBounds_toArray, List.set_cons_succ, List.set_cons_zero]
 refine gate_guard (by kernel_rfl) ?_
 dsimp only
 refine Kd.event_run (w1 := w18.alloc (.cells #[.int .i64 0, .int .i64 1] 3)) (v := .slice (some ⟨w18.heap.size, 0, none⟩) 2 2) rfl (by kernel_rfl) ?_
 simp only [Act.put, List.setIfInBounds_toArray, List.set_cons_succ, List.set_cons_zero]
 obtain ⟨w19, hW_⟩ : ∃ W_, w18.alloc (.cells #[.int .i64 0, .int .i64 1] 3) = W_ := ⟨_, rfl⟩
 have hb : Below w18.heap.size w18 w19 := by rw [← hW_]; exact below_alloc (Below.refl _ _) _
 have hI : Aside0 (Kd.C (Kd.int .i64) w19 (some ⟨w18.heap.size, 0, none⟩) 2 [0, 1]) := ⟨by rw [← hW_]; exact parquetrylaw12_awake.lit_C _ _ _ [0, 1] (blk_new _ _) (by decide)⟩
 rw [hW_]
 have nB_ := Aside0.mk (below_step HB.out hb)
 have nc_ := Aside0.mk (Kd.C_below Hc.out hb)
 clear HB Hc
 have HB := nB_
 have Hc := nc_
 clear nB_ nc_
 clear hW_ hb
 generalize w18.heap.size = gy at hI ⊢
 have Hy := hI
 clear hI
 refine gate_guard (by kernel_rfl) ?_
 dsimp only
 refine goesL_ (some 29) rfl rfl Try.func16 (by kernel_rfl) rfl #[.int .i64 1, .int .i64 1, .int .i64 1, .slice (some ⟨gy, 0, none⟩) 2 2] rfl (by kernel_rfl) ?_
 refine (parquetrylaw12_awake.seq 1 1 1 (some ⟨gy, 0, none⟩) 2 2 _).mono ?_
 rintro e w20 ⟨rfl, hb⟩
 refine ⟨_, rfl, ?_⟩
 simp only [Act.put, List.setIfInBounds_toArray, List.set_cons_succ, List.set_cons_zero]
 have nB_ := Aside0.mk (below_step HB.out hb)
 have nc_ := Aside0.mk (Kd.C_below Hc.out hb)
 have ny_ := Aside0.mk (Kd.C_below Hy.out hb)
 clear HB Hc Hy
 have HB := nB_
 have Hc := nc_
 have Hy := ny_
 clear nB_ nc_ ny_
 clear hb
 refine gate_guard (by kernel_rfl) ?_
 dsimp only
 refine Kd.event_run (w1 := w20.alloc (.cells #[.int .i64 2] 3)) (v := .slice (some ⟨w20.heap.size, 0, none⟩) 1 1) rfl (by kernel_rfl) ?_
 simp only [Act.put, List.setIfInBounds_toArray, List.set_cons_succ, List.set_cons_zero]
 obtain ⟨w21, hW_⟩ : ∃ W_, w20.alloc (.cells #[.int .i64 2] 3) = W_ := ⟨_, rfl⟩
 have hb : Below w20.heap.size w20 w21 := by rw [← hW_]; exact below_alloc (Below.refl _ _) _
 have hI : Aside0 (Kd.C (Kd.int .i64) w21 (some ⟨w20.heap.size, 0, none⟩) 1 [2]) := ⟨by rw [← hW_]; exact parquetrylaw12_awake.lit_C _ _ _ [2] (blk_new _ _) (by decide)⟩
 rw [hW_]
 have nB_ := Aside0.mk (below_step HB.out hb)
 have nc_ := Aside0.mk (Kd.C_below Hc.out hb)
 have ny_ := Aside0.mk (Kd.C_below Hy.out hb)
 clear HB Hc Hy
 have HB := nB_
 have Hc := nc_
 have Hy := ny_
 clear nB_ nc_ ny_
 clear hW_ hb
 generalize w20.heap.size = gz at hI ⊢
 have Hz := hI
 clear hI
 refine gate_guard (by kernel_rfl) ?_
 dsimp only
 refine goesL_ (some 31) rfl rfl Try.func16 (by kernel_rfl) rfl #[.int .i64 2, .int .i64 0, .int .i64 0, .slice (some ⟨gz, 0, none⟩) 1 1] rfl (by kernel_rfl) ?_
 refine (parquetrylaw12_awake.seq 2 0 0 (some ⟨gz, 0, none⟩) 1 1 _).mono ?_
 rintro e w22 ⟨rfl, hb⟩
 refine ⟨_, rfl, ?_⟩
 simp only [Act.put, List.setIfInBounds_toArray, List.set_cons_succ, List.set_cons_zero]
 have nB_ := Aside0.mk (below_step HB.out hb)
 have nc_ := Aside0.mk (Kd.C_below Hc.out hb)
 have ny_ := Aside0.mk (Kd.C_below Hy.out hb)
 have nz_ := Aside0.mk (Kd.C_below Hz.out hb)
 clear HB Hc Hy Hz
 have HB := nB_
 have Hc := nc_
 have Hy := ny_
 have Hz := nz_
 clear nB_ nc_ ny_ nz_
 clear hb
 refine gate_guard (by kernel_rfl) ?_
 dsimp only
 refine Kd.event_run (w1 := w22.alloc (.cells #[.int .i64 1, .int .i64 1, .int .i64 1, .slice (some ⟨gy, 0, none⟩) 2 2, .int .i64 2, .int .i64 0, .int .i64 0, .slice (some ⟨gz, 0, none⟩) 1 1] 28)) (v := .slice (some ⟨w22.heap.size, 0, none⟩) 2 2) rfl (by kernel_rfl) ?_
 simp only [Act.put, List.setIfInBounds_toArray, List.set_cons_succ, List.set_cons_zero]
 obtain ⟨w23, hW_⟩ : ∃ W_, w22.alloc (.cells #[.int .i64 1, .int .i64 1, .int .i64 1, .slice (some ⟨gy, 0, none⟩) 2 2, .int .i64 2, .int .i64 0, .int .i64 0, .slice (some ⟨gz, 0, none⟩) 1 1] 28) = W_ := ⟨_, rfl⟩
 have hb : Below w22.heap.size w22 w23 := by rw [← hW_]; exact below_alloc (Below.refl _ _) _
 have hI : Aside0 (Kd.C k28 w23 (some ⟨w22.heap.size, 0, none⟩) 2 parquetrylaw12_awake.rc) := ⟨parquetrylaw12_awake.two (la := [0, 1]) (lb := [2]) (by rw [← hW_]; exact blk_new _ _) (Kd.C_below Hy.out hb) (Kd.C_below Hz.out hb) (Nat.le_refl _) (Nat.le_refl _)⟩
 rw [hW_]
 clear Hy Hz
 have nB_ := Aside0.mk (below_step HB.out hb)
 have nc_ := Aside0.mk (Kd.C_below Hc.out hb)
 clear HB Hc
 have HB := nB_
 have Hc := nc_
 clear nB_ nc_
 clear hW_ hb
 generalize w22.heap.size = gp at hI ⊢
 have Hp := hI
 clear hI
 refine gate_guard (by kernel_rfl) ?_
 dsimp only
 refine goesL_ (some 33) rfl rfl Try.func9 (by kernel_rfl) rfl #[.slice Ac parquetrylaw12_awake.rc.length cc, .slice (some ⟨gp, 0, none⟩) 2 2] rfl (by kernel_rfl) ?_
 refine (parquetryref12_Same.calls 60 Ac cc parquetrylaw12_awake.rc (some ⟨gp, 0, none⟩) 2 parquetrylaw12_awake.rc true _ Hc.out HCc.out Hp.out (Nat.le_refl _) parquetrylaw12_awake.same_c).mono ?_
 rintro e w24 ⟨rfl, hd⟩
 have hb := hd.below
 clear hd
 refine ⟨_, rfl, ?_⟩
 simp only [Act.put, List.setIfInBounds_toArray, List.set_cons_succ, List.set_cons_zero]
 clear Hp Hc HCc
 have nB_ := Aside0.mk (below_step HB.out hb)
 clear HB 
 have HB := nB_
 clear nB_ 
 clear hb
 refine Kd.event_run (w1 := w24) (v := .bool true) rfl (by kernel_rfl) ?_
 simp only [Act.put, List.setIfInBounds_toArray, List.set_cons_succ, List.set_cons_zero]
 refine Kd.event_run (w1 := w24) (v := .bool true) rfl (by kernel_rfl) ?_
 simp only [Act.put, List.setIfInBounds_toArray, List.set_cons_succ, List.set_cons_zero]
 refine gate_guard (by kernel_rfl) ?_
 dsimp only
 refine Kd.event_run (w1 := w24.alloc (.cells #[.int .i64 9] 3)) (v := .slice (some ⟨w24.heap.size, 0, none⟩) 1 1) rfl (by kernel_rfl) ?_
 simp only [Act.put, List.setIfInBounds_toArray, List.set_cons_succ, List.set_cons_zero]
 obtain ⟨w25, hW_⟩ : ∃ W_, w24.alloc (.cells #[.int .i64 9] 3) = W_ := ⟨_, rfl⟩
 have hb : Below w24.heap.size w24 w25 := by rw [← hW_]; exact below_alloc (Below.refl _ _) _
 have hI : Aside0 (Kd.C (Kd.int .i64) w25 (some ⟨w24.heap.size, 0, none⟩) 1 [9]) := ⟨by rw [← hW_]; exact parquetrylaw12_awake.lit_C _ _ _ [9] (blk_new _ _) (by decide)⟩
 rw [hW_]
 have nB_ := Aside0.mk (below_step HB.out hb)
 clear HB 
 have HB := nB_
 clear nB_ 
 clear hW_ hb
 generalize w24.heap.size = gx at hI ⊢
 have Hx := hI
 clear hI
 refine gate_guard (by kernel_rfl) ?_
 dsimp only
 refine goesL_ (some 37) rfl rfl Try.func8 (by kernel_rfl) rfl #[.slice (some ⟨gx, 0, none⟩) 1 1, .int .i64 0] rfl (by kernel_rfl) ?_
 refine (seqs_Sequences.calls 60 (some ⟨gx, 0, none⟩) 1 [9] 0 parquetrylaw12_awake.rd _ Hx.out (Nat.le_refl _) parquetrylaw12_awake.at_d).mono ?_
 rintro e w26 ⟨v_, rfl, hS, hb⟩
 obtain ⟨Ad, cd, rfl, hc_, hr_⟩ := Kd.S_reads hS
 refine ⟨_, rfl, ?_⟩
 simp only [Act.put, List.setIfInBounds_toArray, List.set_cons_succ, List.set_cons_zero]
 clear Hx hS
 have nB_ := Aside0.mk (below_step HB.out hb)
 clear HB 
 have HB := nB_
 clear nB_ 
 clear hb
 have Hd := Aside0.mk hr_
 have HCd := Aside0.mk hc_
 clear hr_ hc_
 refine gate_guard (by kernel_rfl) ?_
 dsimp only
 refine Kd.event_run (w1 := w26) (v := .int .i64 0) rfl (by kernel_rfl) ?_
 simp only [Act.put, List.setIfInBounds_toArray, List.set_cons_succ, List.set_cons_zero]
 refine gate_guard (by kernel_rfl) ?_
 dsimp only
 refine Kd.event_run (w1 := w26) (v := .bool true) rfl (by kernel_rfl) ?_
 simp only [Act.put, List.setIfInBounds_toArray, List.set_cons_succ, List.set_cons_zero]
 refine Kd.event_run (w1 := w26) (v := .bool true) rfl (by kernel_rfl) ?_
 simp only [Act.put, List.setIfInBounds_toArray, List.set_cons_succ, List.set_cons_zero]
 clear Hd HCd
 refine Kd.event_run (w1 := w26) (v := .bool true) rfl (by kernel_rfl) ?_
 simp only [Act.put, List.setIfInBounds_toArray, List.set_cons_succ, List.set_cons_zero]
 refine gate_guard (by kernel_rfl) ?_
 dsimp only
 refine Kd.event_run (w1 := w26.alloc (.cells #[.int .i64 0] 3)) (v := .slice (some ⟨w26.heap.size, 0, none⟩) 1 1) rfl (by kernel_rfl) ?_
 simp only [Act.put, List.setIfInBounds_toArray, List.set_cons_succ, List.set_cons_zero]
 obtain ⟨w27, hW_⟩ : ∃ W_, w26.alloc (.cells #[.int .i64 0] 3) = W_ := ⟨_, rfl⟩
 have hb : Below w26.heap.size w26 w27 := by rw [← hW_]; exact below_alloc (Below.refl _ _) _
 have hI : Aside0 (Kd.C (Kd.int .i64) w27 (some ⟨w26.heap.size, 0, none⟩) 1 [0]) := ⟨by rw [← hW_]; exact parquetrylaw12_awake.lit_C _ _ _ [0] (blk_new _ _) (by decide)⟩
 rw [hW_]
 have nB_ := Aside0.mk (below_step HB.out hb)
 clear HB 
 have HB := nB_
 clear nB_ 
 clear hW_ hb
 generalize w26.heap.size = gx at hI ⊢
 have Hx := hI
 clear hI
 refine gate_guard (by kernel_rfl) ?_
 dsimp only
 refine goesL_ (some 43) rfl rfl Try.func8 (by kernel_rfl) rfl #[.slice (some ⟨gx, 0, none⟩) 1 1, .int .i64 2] rfl (by kernel_rfl) ?_
 refine (seqs_Sequences.calls 60 (some ⟨gx, 0, none⟩) 1 [0] 2 parquetrylaw12_awake.re _ Hx.out (Nat.le_refl _) parquetrylaw12_awake.at_e).mono ?_
 rintro e w28 ⟨v_, rfl, hS, hb⟩
 obtain ⟨Ae, ce, rfl, hc_, hr_⟩ := Kd.S_reads hS
 refine ⟨_, rfl, ?_⟩
 simp only [Act.put, List.setIfInBounds_toArray, List.set_cons_succ, List.set_cons_zero]
 clear Hx hS
 have nB_ := Aside0.mk (below_step HB.out hb)
 clear HB 
 have HB := nB_
 clear nB_ 
 clear hb
 have He := Aside0.mk hr_
 have HCe := Aside0.mk hc_
 clear hr_ hc_
 refine gate_guard (by kernel_rfl) ?_
 dsimp only
 refine Kd.event_run (w1 := w28) (v := .int .i64 0) rfl (by kernel_rfl) ?_
 simp only [Act.put, List.setIfInBounds_toArray, List.set_cons_succ, List.set_cons_zero]
 refine gate_guard (by kernel_rfl) ?_
 dsimp only
 refine Kd.event_run (w1 := w28) (v := .bool true) rfl (by kernel_rfl) ?_
 simp only [Act.put, List.setIfInBounds_toArray, List.set_cons_succ, List.set_cons_zero]
 refine Kd.event_run (w1 := w28) (v := .bool true) rfl (by kernel_rfl) ?_
 simp only [Act.put, List.setIfInBounds_toArray, List.set_cons_succ, List.set_cons_zero]
 clear He HCe
 refine Kd.event_run (w1 := w28) (v := .bool true) rfl (by kernel_rfl) ?_
 simp only [Act.put, List.setIfInBounds_toArray, List.set_cons_succ, List.set_cons_zero]
 refine wpList_nil ?_
 go_wp2
 go_ret
 exact ⟨rfl, HB.out⟩
end


end Go.Proofs.Ytdieknpikdepgaa.PC12
