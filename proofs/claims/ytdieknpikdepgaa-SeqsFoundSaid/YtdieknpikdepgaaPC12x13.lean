/- For the laws of the group C12: the Lean functions that the Go functions compute, and proofs that they do. Written by wip/hprint.py of this repo over the kit's printer; nothing here is trusted: Lean checks it. -/
import Derived.Test.YtdieknpikdepgaaPC12x0
import Derived.Test.YtdieknpikdepgaaPC12x9
import Derived.Test.YtdieknpikdepgaaPC12x11
import Derived.Test.YtdieknpikdepgaaPC12x12
namespace Go.Proofs.Ytdieknpikdepgaa.PC12
open Go.RowKit Go.Proofs.YtdieknpikdepgaaW.PrintWords Go.Proofs.YtdieknpikdepgaaW.PrintLast Go.Proofs.YtdieknpikdepgaaW.PrintMore
attribute [local go_sem] max2_int min2_int max_two min_two max_three min_three max_four min_four   -- for this text's walks alone
set_option linter.unusedVariables false
set_option linter.unusedSimpArgs false

/-! ### parquetryref12_Sequences: function 10: by hand -/
/-- A sequence's places from one on, and the last one. -/
def parquetryref12_Sequences.ch : Nat → List Int → List Int → Int → Int → List Int → Option (List Int × Int)
 | 0, _, _, _, _, _ => none
 | k + 1, l, e, p, last, t => if 0 ≤ p then (if t.length < 1000000 then (parquetryref12_Next.f k l e p).bind fun q => parquetryref12_Sequences.ch k l e q p (t ++ [p]) else none) else some (t, last)
def parquetryref12_Sequences.bh (k : Nat) (l : List Int) (a1 last bv : Int) : Option Int :=
 if 0 ≤ last ∧ last < (l.length : Int) then (parquetryref10_Initiator.f (rd l last)).bind fun t => if t = true then (parquetryref10_End.f k l last).bind fun z => some (if z = (l.length : Int) then a1 else bv) else some bv else none
def parquetryref12_Sequences.gd (l e : List Int) (i : Int) (out : List S28) : Prop := 0 ≤ i ∧ i < 1000000 ∧ out.length < 1000000 ∧ e.length = l.length
instance parquetryref12_Sequences.dgd (l e : List Int) (i : Int) (out : List S28) : Decidable (parquetryref12_Sequences.gd l e i out) := by unfold parquetryref12_Sequences.gd; infer_instance
def parquetryref12_Sequences.lp : Nat → List Int → Int → List Int → Int → List S28 → Option (List S28)
 | 0, _, _, _, _, _ => none
 | k + 1, l, a1, e, i, out => if i < (e.length : Int) then (if parquetryref12_Sequences.gd l e i out then (if rd e i < 0 then parquetryref12_Sequences.lp k l a1 e (i + 1) out else
   (parquetryref12_First.f k l e i).bind fun b => if b = true then
    (parquetryref12_Near.f k e (wrap64 (i - 1)) (-1)).bind fun p => (parquetryref12_at.f e p a1).bind fun av => (parquetryref12_Way.f (rd e i) av).bind fun s => (parquetryref12_Sequences.ch k l e i i []).bind fun c => (parquetryref12_Near.f k e (wrap64 (c.2 + 1)) 1).bind fun q => (parquetryref12_at.f e q a1).bind fun bv => (parquetryref12_Sequences.bh k l a1 c.2 bv).bind fun b2 => (parquetryref12_Way.f (rd e i) b2).bind fun eo => parquetryref12_Sequences.lp k l a1 e (i + 1) (out ++ [⟨rd e i, s, eo, c.1⟩])
   else parquetryref12_Sequences.lp k l a1 e (i + 1) out) else none) else some out
def parquetryref12_Sequences.f (k : Nat) (l0 : List Int) (a1 : Int) : Option (List S28) := (parquetryref11_Explicit.f k l0 a1).bind fun b => if b.1.length < 1000000 then parquetryref12_Sequences.lp k l0 a1 b.1 0 [] else none
theorem parquetryref12_Sequences.mono_c : ∀ k, ∀ y0 y1 y2 y3 y4, LeO (parquetryref12_Sequences.ch k y0 y1 y2 y3 y4) (parquetryref12_Sequences.ch (k + 1) y0 y1 y2 y3 y4)
 | 0 => fun _ _ _ _ _ r h => by simp [parquetryref12_Sequences.ch] at h
 | k + 1 => fun y0 y1 y2 y3 y4 => by
  have ih := parquetryref12_Sequences.mono_c k
  unfold parquetryref12_Sequences.ch
  refine LeO.ite (LeO.ite (LeO.bind (parquetryref12_Next.mono _ _ _ _) (fun q => ih _ _ _ _ _)) (LeO.refl _)) (LeO.refl _)
theorem parquetryref12_Sequences.mono_b (k : Nat) (l : List Int) (a1 x y : Int) : LeO (parquetryref12_Sequences.bh k l a1 x y) (parquetryref12_Sequences.bh (k + 1) l a1 x y) := by
 unfold parquetryref12_Sequences.bh
 refine LeO.ite (LeO.bind (LeO.refl _) (fun t => LeO.ite (LeO.bind (parquetryref10_End.mono _ _ _) (fun z => LeO.refl _)) (LeO.refl _))) (LeO.refl _)
theorem parquetryref12_Sequences.mono_l : ∀ k, ∀ y0 y1 y2 y3 y4, LeO (parquetryref12_Sequences.lp k y0 y1 y2 y3 y4) (parquetryref12_Sequences.lp (k + 1) y0 y1 y2 y3 y4)
 | 0 => fun _ _ _ _ _ r h => by simp [parquetryref12_Sequences.lp] at h
 | k + 1 => fun y0 y1 y2 y3 y4 => by
  have ih := parquetryref12_Sequences.mono_l k
  unfold parquetryref12_Sequences.lp
  refine LeO.ite (LeO.ite (LeO.ite (ih _ _ _ _ _) (LeO.bind (parquetryref12_First.mono _ _ _ _) (fun b => LeO.ite ?_ (ih _ _ _ _ _)))) (LeO.refl _)) (LeO.refl _)
  refine LeO.bind (parquetryref12_Near.mono _ _ _ _) (fun p => LeO.bind (LeO.refl _) (fun av => LeO.bind (LeO.refl _) (fun s => LeO.bind (parquetryref12_Sequences.mono_c _ _ _ _ _ _) (fun c => LeO.bind (parquetryref12_Near.mono _ _ _ _) (fun q => LeO.bind (LeO.refl _) (fun bv => LeO.bind (parquetryref12_Sequences.mono_b _ _ _ _ _) (fun b2 => LeO.bind (LeO.refl _) (fun eo => ih _ _ _ _ _))))))))
theorem parquetryref12_Sequences.mono : ∀ a0 a1 k, LeO (parquetryref12_Sequences.f k a0 a1) (parquetryref12_Sequences.f (k + 1) a0 a1) := by
 intro a0 a1 k
 unfold parquetryref12_Sequences.f
 exact LeO.bind (parquetryref11_Explicit.mono _ _ _) (fun _ => LeO.ite (parquetryref12_Sequences.mono_l _ _ _ _ _ _) (LeO.refl _))
section
open Go.Proofs.YtdieknpikdepgaaH
set_option maxHeartbeats 2000000 in
set_option maxRecDepth 100000 in
theorem parquetryref12_Sequences.calls (k : Nat) (A0 : Option Addr) (c0 : Nat) (l0 : List Int) (a1 : Int) (r : List S28) (w : World) (hr0 : Kd.C (Kd.int .i64) w A0 l0.length l0) (hc0 : l0.length ≤ c0) (h : parquetryref12_Sequences.f k l0 a1 = some r) :
  Calls Try.prog 10 #[.slice A0 l0.length c0, .int .i64 a1] w fun e w' => ∃ v0_ : Value, e = .returned v0_ ∧ Kd.S k28 28 w' w.heap.size (fun _ => True) v0_ r ∧ Below w.heap.size w w' := by
 have HR0 := Aside0.mk hr0
 have HC0 := Aside0.mk hc0
 unfold parquetryref12_Sequences.f at h
 obtain ⟨⟨e, tl⟩, he, h⟩ := Option.bind_eq_some_iff.mp h
 split at h
 rotate_left
 ·
  cases h
 rename_i hel
 dsimp only at hel h
 have HE := Aside0.mk he
 have HH := Aside0.mk h
 clear he h hr0 hc0
 go_enter Try.func10, Try.ntmps10
 go_wp2_with (go_at_call 22; refine (parquetryref11_Explicit.calls k A0 c0 l0 a1 e tl _ HR0.out HC0.out HE.out).mono ?_; rintro e_ w1 ⟨v1, v2, rfl, hl1, hl2, hb1⟩; obtain ⟨A1, c1, rfl, hc1, hr1⟩ := Kd.R_reads hl1; have HR1 := Aside0.mk hr1; have HC1 := Aside0.mk hc1; have HB1 := Aside0.mk hb1; clear hl1 hl2 hb1 hr1 hc1)
 clear HE
 go_loopg [8, 7] k (fun kx s8 s7 wr => ∃ (ii : Int) (out : List S28) (A : Option Addr) (c : Nat), s8 = .int .i64 ii ∧ s7 = .slice A out.length c ∧ Aside0 (parquetryref12_Sequences.lp kx l0 a1 e ii out = some r) ∧ Aside0 (Kd.S k28 28 wr w1.heap.size (fun _ => True) (.slice A out.length c) out) ∧ Aside0 (Below w1.heap.size w1 wr))
 case atStart => exact ⟨0, [], none, 0, rfl, rfl, HH, ⟨Kd.S_nil _ _ _ _ _⟩, ⟨Below.refl _ _⟩⟩
 case round =>
  clear HH
  obtain ⟨ii, out, A, c, rfl, rfl, HH, HS, HB⟩ := hrel
  have h := HH.out
  clear HH
  cases gk with
  | zero => exact absurd h (by simp [parquetryref12_Sequences.lp])
  | succ k1 =>
   unfold parquetryref12_Sequences.lp at h
   by_cases hi : ii < (e.length : Int)
   rotate_left
   ·
    rw [if_neg hi] at h
    obtain rfl := Option.some.inj h
    have b1 : decide (ii < (e.length : Int)) = false := decide_eq_false hi
    clear h hi
    go_wp2
    go_ret
    exact ⟨_, rfl, Kd.S_mono (Kd.S_lower HS.out HB1.out.size) (fun _ _ => trivial), below_step HB1.out HB.out⟩
   ·
    rw [if_pos hi] at h
    have b1 : decide (ii < (e.length : Int)) = true := decide_eq_true hi
    split at h
    rotate_left
    ·
     cases h
    rename_i hg
    obtain ⟨g0, g1, g2, g3⟩ := hg
    have G3 := Aside0.mk g3
    clear g3
    have p0 : (0 ≤ ii) = True := eq_true g0
    have p1 : (ii < (e.length : Int)) = True := eq_true hi
    obtain ⟨ade, ee, ye⟩ := Kd.at_int (Kd.C_below HR1.out HB.out) ii g0 hi
    subst ee
    by_cases hx : rd e ii < 0
    ·
     rw [if_pos hx] at h
     have HH := Aside0.mk h
     have b2 : decide (rd e ii < 0) = true := decide_eq_true hx
     clear h hx
     go_wp2
     go_roundg k1
     case measure => exact Nat.lt_succ_self _
     case rel => exact ⟨ii + 1, out, A, c, rfl, rfl, HH, HS, HB⟩
    ·
     rw [if_neg hx] at h
     have b2 : decide (rd e ii < 0) = false := decide_eq_false hx
     obtain ⟨b, hb, h⟩ := Option.bind_eq_some_iff.mp h
     have HF := Aside0.mk hb
     clear hb
     cases b with
     | false =>
      rw [if_neg (by decide)] at h
      have HH := Aside0.mk h
      have CT := Aside0.mk (parquetryref12_First.calls k1 A0 c0 l0 (some ade) c1 e ii false wr (Kd.C_below HR0.out (below_step HB1.out HB.out)) HC0.out (Kd.C_below HR1.out HB.out) HC1.out HF.out)
      clear h hx HF
      go_wp2_with (go_at_call 23; (with_reducible refine CT.out.mono ?_); rintro e_ w2 ⟨rfl, hd⟩; have hb2 := hd.below; have n0_ := Aside0.mk (Kd.S_below HS.out hb2); have n1_ := Aside0.mk (below_step HB.out hb2); clear hd hb2)
      go_roundg k1
      case measure => exact Nat.lt_succ_self _
      case rel => exact ⟨ii + 1, out, A, c, rfl, rfl, HH, n0_, n1_⟩
     | true =>
      rw [if_pos (Eq.refl true)] at h
      have HN := Aside0.mk h
      have CT := Aside0.mk (parquetryref12_First.calls k1 A0 c0 l0 (some ade) c1 e ii true wr (Kd.C_below HR0.out (below_step HB1.out HB.out)) HC0.out (Kd.C_below HR1.out HB.out) HC1.out HF.out)
      clear h hx HF
      go_upto_region 7 with (go_at_call 23; (with_reducible refine CT.out.mono ?_); rintro e_ w2 ⟨rfl, hd⟩; have hb2 := hd.below; have n0_ := Aside0.mk (Kd.S_below HS.out hb2); have n1_ := Aside0.mk (below_step HB.out hb2); clear hd hb2 HS HB CT; have HS := n0_; have HB := n1_; clear n0_ n1_)
      have h := HN.out
      clear HN
      obtain ⟨p, hp, h⟩ := Option.bind_eq_some_iff.mp h
      obtain ⟨av, hav, h⟩ := Option.bind_eq_some_iff.mp h
      obtain ⟨sw, hsw, h⟩ := Option.bind_eq_some_iff.mp h
      obtain ⟨⟨ats, la⟩, hch, h⟩ := Option.bind_eq_some_iff.mp h
      obtain ⟨q, hq, h⟩ := Option.bind_eq_some_iff.mp h
      obtain ⟨bv, hbv, h⟩ := Option.bind_eq_some_iff.mp h
      obtain ⟨b2v, hb2v, h⟩ := Option.bind_eq_some_iff.mp h
      obtain ⟨eo, heo, h⟩ := Option.bind_eq_some_iff.mp h
      dsimp only at hq hb2v h
      have HP := Aside0.mk hp
      have HAV := Aside0.mk hav
      have HSW := Aside0.mk hsw
      have HCH := Aside0.mk hch
      have HQ := Aside0.mk hq
      have HBV := Aside0.mk hbv
      have HB2 := Aside0.mk hb2v
      have HEO := Aside0.mk heo
      have HH := Aside0.mk h
      clear h hp hav hsw hch hq hbv hb2v heo b1 b2 ye
      obtain ⟨ad', e', y2⟩ := Kd.at_int (Kd.C_below HR1.out HB.out) ii g0 hi
      obtain rfl := Option.some.inj e'
      clear e'
      refine start_ (n := 19) (S := fun w' => w'.cell? (ade.add ii.toNat) = some (.int .i64 (rd e ii))) (ds := [18]) #[false, false, false, false, false, false, false, false, false, false, false, false, false, false, false, false, false, false, false] (by kernel_rfl) rfl rfl (y2) (fun hHeld => ?_)
      have n0_ := Aside0.mk (Kd.S_drew HS.out)
      have n1_ := Aside0.mk (below_drew1 HB.out)
      clear HS HB y2
      have HS := n0_
      have HB := n1_
      clear n0_ n1_
      generalize w2.drew = W2 at HS HB hHeld ⊢
      refine pure_ (i := 0) (N := some 37) (v := ?_) (a' := ?_) #[true, false, false, false, false, false, false, false, false, false, false, false, false, false, false, false, false, false, false] rfl rfl (by kernel_rfl) (fun _ _ _ h => h) (Or.inl ⟨by rfl, ?_⟩) ?_ ?_
      rotate_left
      ·
       intro w'
       go_simp
       with_reducible rfl
      rotate_left
      ·
       simp only [Act.put, List.setIfInBounds_toArray, List.set_cons_zero, List.set_cons_succ, i64_w, i32_w]
       rfl
      refine pure_ (i := 1) (N := some 38) (v := ?_) (a' := ?_) #[true, true, false, false, false, false, false, false, false, false, false, false, false, false, false, false, false, false, false] rfl rfl (by kernel_rfl) (fun _ _ _ h => h) (Or.inl ⟨by rfl, ?_⟩) ?_ ?_
      rotate_left
      ·
       intro w'
       go_simp
       with_reducible rfl
      rotate_left
      ·
       simp only [Act.put, List.setIfInBounds_toArray, List.set_cons_zero, List.set_cons_succ, i64_w, i32_w]
       rfl
      refine pure_ (i := 2) (N := some 39) (v := ?_) (a' := ?_) #[true, true, true, false, false, false, false, false, false, false, false, false, false, false, false, false, false, false, false] rfl rfl (by kernel_rfl) (fun _ _ _ h => h) (Or.inl ⟨by rfl, ?_⟩) ?_ ?_
      rotate_left
      ·
       intro w'
       go_simp
       with_reducible rfl
      rotate_left
      ·
       simp only [Act.put, List.setIfInBounds_toArray, List.set_cons_zero, List.set_cons_succ, i64_w, i32_w]
       rfl
      refine pure_ (i := 4) (N := some 41) (v := ?_) (a' := ?_) #[true, true, true, false, true, false, false, false, false, false, false, false, false, false, false, false, false, false, false] rfl rfl (by kernel_rfl) (fun _ _ _ h => h) (Or.inl ⟨by rfl, ?_⟩) ?_ ?_
      rotate_left
      ·
       intro w'
       go_simp
       with_reducible rfl
      rotate_left
      ·
       simp only [Act.put, List.setIfInBounds_toArray, List.set_cons_zero, List.set_cons_succ, i64_w, i32_w]
       rfl
      refine pure_ (i := 5) (N := some 42) (v := ?_) (a' := ?_) #[true, true, true, false, true, true, false, false, false, false, false, false, false, false, false, false, false, false, false] rfl rfl (by kernel_rfl) (fun _ _ _ h => h) (Or.inl ⟨by rfl, ?_⟩) ?_ ?_
      rotate_left
      ·
       intro w'
       go_simp
       with_reducible rfl
      rotate_left
      ·
       simp only [Act.put, List.setIfInBounds_toArray, List.set_cons_zero, List.set_cons_succ, i64_w, i32_w]
       rfl
      refine pure_ (i := 6) (N := some 43) (v := ?_) (a' := ?_) #[true, true, true, false, true, true, true, false, false, false, false, false, false, false, false, false, false, false, false] rfl rfl (by kernel_rfl) (fun _ _ _ h => h) (Or.inl ⟨by rfl, ?_⟩) ?_ ?_
      rotate_left
      ·
       intro w'
       go_simp
       with_reducible rfl
      rotate_left
      ·
       simp only [Act.put, List.setIfInBounds_toArray, List.set_cons_zero, List.set_cons_succ, i64_w, i32_w]
       rfl
      refine pure_ (i := 8) (N := some 45) (v := ?_) (a' := ?_) #[true, true, true, false, true, true, true, false, true, false, false, false, false, false, false, false, false, false, false] rfl rfl (by kernel_rfl) (fun _ _ _ h => h) (Or.inl ⟨by rfl, ?_⟩) ?_ ?_
      rotate_left
      ·
       intro w'
       go_simp
       with_reducible rfl
      rotate_left
      ·
       simp only [Act.put, List.setIfInBounds_toArray, List.set_cons_zero, List.set_cons_succ, i64_w, i32_w]
       rfl
      refine pure_ (i := 9) (N := some 46) (v := ?_) (a' := ?_) #[true, true, true, false, true, true, true, false, true, true, false, false, false, false, false, false, false, false, false] rfl rfl (by kernel_rfl) (fun _ _ _ h => h) (Or.inl ⟨by rfl, ?_⟩) ?_ ?_
      rotate_left
      ·
       intro w'
       go_simp
       with_reducible rfl
      rotate_left
      ·
       simp only [Act.put, List.setIfInBounds_toArray, List.set_cons_zero, List.set_cons_succ, i64_w, i32_w]
       rfl
      refine pure_ (i := 10) (N := some 47) (v := ?_) (a' := ?_) #[true, true, true, false, true, true, true, false, true, true, true, false, false, false, false, false, false, false, false] rfl rfl (by kernel_rfl) (fun _ _ _ h => h) (Or.inl ⟨by rfl, ?_⟩) ?_ ?_
      rotate_left
      ·
       intro w'
       go_simp
       with_reducible rfl
      rotate_left
      ·
       simp only [Act.put, List.setIfInBounds_toArray, List.set_cons_zero, List.set_cons_succ, i64_w, i32_w]
       rfl
      refine pure_ (i := 11) (N := some 48) (v := ?_) (a' := ?_) #[true, true, true, false, true, true, true, false, true, true, true, true, false, false, false, false, false, false, false] rfl rfl (by kernel_rfl) (fun _ _ _ h => h) (Or.inl ⟨by rfl, ?_⟩) ?_ ?_
      rotate_left
      ·
       intro w'
       go_simp
       with_reducible rfl
      rotate_left
      ·
       simp only [Act.put, List.setIfInBounds_toArray, List.set_cons_zero, List.set_cons_succ, i64_w, i32_w]
       rfl
      refine pure_ (i := 13) (N := some 50) (v := ?_) (a' := ?_) #[true, true, true, false, true, true, true, false, true, true, true, true, false, true, false, false, false, false, false] rfl rfl (by kernel_rfl) (fun _ _ _ h => h) (Or.inl ⟨by rfl, ?_⟩) ?_ ?_
      rotate_left
      ·
       intro w'
       go_simp
       with_reducible rfl
      rotate_left
      ·
       simp only [Act.put, List.setIfInBounds_toArray, List.set_cons_zero, List.set_cons_succ, i64_w, i32_w]
       rfl
      refine take_ (i := 3) (N := some 40) (v := ?_) (a' := ?_) #[true, true, true, true, true, true, true, false, true, true, true, true, false, true, false, false, false, false, false] rfl rfl (by kernel_rfl) (fun _ _ _ h => h) (Or.inl ⟨by rfl, ?_⟩) hHeld ?_ ?_
      rotate_left
      ·
       intro w' s0
       go_simp
       with_reducible rfl
      rotate_left
      ·
       simp only [Act.put, List.setIfInBounds_toArray, List.set_cons_zero, List.set_cons_succ, i64_w, i32_w]
       rfl
      refine take_ (i := 7) (N := some 44) (v := ?_) (a' := ?_) #[true, true, true, true, true, true, true, true, true, true, true, true, false, true, false, false, false, false, false] rfl rfl (by kernel_rfl) (fun _ _ _ h => h) (Or.inl ⟨by rfl, ?_⟩) hHeld ?_ ?_
      rotate_left
      ·
       intro w' s0
       go_simp
       with_reducible rfl
      rotate_left
      ·
       simp only [Act.put, List.setIfInBounds_toArray, List.set_cons_zero, List.set_cons_succ, i64_w, i32_w]
       rfl
      refine join_ (σ := Nat) 1 #[true, true, true, true, true, true, true, true, true, true, true, true, true, true, true, true, true, true, false] (fun s_ => [(49, Value.int .i64 p), (51, Value.int .i64 av), (52, Value.int .i64 sw), (9, Value.pointer (some ⟨s_, 0, none⟩)), (53, Value.agg #[.int .i64 (rd e ii), .int .i64 sw, .int .i64 0, .slice none 0 0])]) (fun s_ w_ => w_.cell? (ade.add ii.toNat) = some (.int .i64 (rd e ii)) ∧ Kd.S k28 28 w_ w1.heap.size (fun k => k ≠ s_) (.slice A out.length c) out ∧ Below w1.heap.size w1 w_ ∧ w_.heap[s_]? = some (.cells #[.int .i64 0, .int .i64 0, .int .i64 0, .slice none 0 0] 28 (0, 0)) ∧ w1.heap.size ≤ s_) ?_ ?_
      rotate_left
      ·
       intro hCont
       refine two_ (i := 12) (j := 17) (Ni := some 49) (Nj := some 9) #[true, true, true, true, true, true, true, true, true, true, true, true, true, true, false, false, false, false, false] #[true, true, true, true, true, true, true, true, true, true, true, true, false, true, false, false, false, true, false] rfl rfl rfl rfl (by kernel_rfl) (by decide) (by decide) (fun K hK => ?_) (fun K hK => ?_)
       ·
        skip
        refine goes_ Try.func26 (by kernel_rfl) rfl #[.slice (some ade) e.length c1, .int .i64 (wrap64 (ii - 1)), .int .i64 (-1)] (by rfl) rfl rfl (by simp only [List.map_toArray, List.map_cons, List.map_nil]; rfl) ?_
        with_reducible refine (parquetryref12_Near.calls k1 (some ade) c1 e (wrap64 (ii - 1)) (-1) p _ (Kd.C_below HR1.out HB.out) HC1.out HP.out).mono ?_
        rintro e_ wf12 ⟨rfl, hd6⟩
        refine ⟨_, rfl, ?_⟩
        have hb6 := hd6.below
        have n0_ := Aside0.mk (Kd.S_below HS.out hb6)
        have n1_ := Aside0.mk (below_step HB.out hb6)
        clear HS HB
        have HS := n0_
        have HB := n1_
        clear n0_ n1_
        refine hK.out _ _ (pw_cell_below hb6 hHeld) (fun hHeld => ?_)
        clear hK K
        refine norm_ (a' := ?_) ?_ ?_
        rotate_left
        ·
         show Act.put _ (some 49) _ = _
         simp only [Act.put, List.setIfInBounds_toArray, List.set_cons_zero, List.set_cons_succ, i64_w, i32_w]
         rfl
        refine two_ (i := 14) (j := 17) (Ni := some 51) (Nj := some 9) #[true, true, true, true, true, true, true, true, true, true, true, true, true, true, true, false, false, false, false] #[true, true, true, true, true, true, true, true, true, true, true, true, true, true, false, false, false, true, false] rfl rfl rfl rfl (by kernel_rfl) (by decide) (by decide) (fun K hK => ?_) (fun K hK => ?_)
        ·
         skip
         refine goes_ Try.func25 (by kernel_rfl) rfl #[.slice (some ade) e.length c1, .int .i64 p, .int .i64 a1] (by rfl) rfl rfl (by simp only [List.map_toArray, List.map_cons, List.map_nil]; rfl) ?_
         with_reducible refine (parquetryref12_at.calls (some ade) c1 e p a1 av _ (Kd.C_below HR1.out HB.out) HC1.out HAV.out).mono ?_
         rintro e_ wf12_14 ⟨rfl, hd6⟩
         refine ⟨_, rfl, ?_⟩
         have hb6 := hd6.below
         have n0_ := Aside0.mk (Kd.S_below HS.out hb6)
         have n1_ := Aside0.mk (below_step HB.out hb6)
         clear HS HB
         have HS := n0_
         have HB := n1_
         clear n0_ n1_
         refine hK.out _ _ (pw_cell_below hb6 hHeld) (fun hHeld => ?_)
         clear hK K
         refine norm_ (a' := ?_) ?_ ?_
         rotate_left
         ·
          show Act.put _ (some 51) _ = _
          simp only [Act.put, List.setIfInBounds_toArray, List.set_cons_zero, List.set_cons_succ, i64_w, i32_w]
          rfl
         refine two_ (i := 15) (j := 17) (Ni := some 52) (Nj := some 9) #[true, true, true, true, true, true, true, true, true, true, true, true, true, true, true, true, false, false, false] #[true, true, true, true, true, true, true, true, true, true, true, true, true, true, true, false, false, true, false] rfl rfl rfl rfl (by kernel_rfl) (by decide) (by decide) (fun K hK => ?_) (fun K hK => ?_)
         ·
          skip
          refine goes_ Try.func24 (by kernel_rfl) rfl #[.int .i64 (rd e ii), .int .i64 av] (by rfl) rfl rfl (by simp only [List.map_toArray, List.map_cons, List.map_nil]; rfl) ?_
          with_reducible refine (parquetryref12_Way.calls (rd e ii) av sw _ HSW.out).mono ?_
          rintro e_ wf12_14_15 ⟨rfl, hb6⟩
          refine ⟨_, rfl, ?_⟩
          have n0_ := Aside0.mk (Kd.S_below HS.out hb6)
          have n1_ := Aside0.mk (below_step HB.out hb6)
          clear HS HB
          have HS := n0_
          have HB := n1_
          clear n0_ n1_
          refine hK.out _ _ (pw_cell_below hb6 hHeld) (fun hHeld => ?_)
          clear hK K
          refine norm_ (a' := ?_) ?_ ?_
          rotate_left
          ·
           show Act.put _ (some 52) _ = _
           simp only [Act.put, List.setIfInBounds_toArray, List.set_cons_zero, List.set_cons_succ, i64_w, i32_w]
           rfl
          refine pure_ (i := 16) (N := some 53) (v := ?_) (a' := ?_) #[true, true, true, true, true, true, true, true, true, true, true, true, true, true, true, true, true, false, false] rfl rfl (by kernel_rfl) (fun _ _ _ h => h) (Or.inl ⟨by rfl, ?_⟩) ?_ ?_
          rotate_left
          ·
           intro w'
           go_simp
           with_reducible rfl
          rotate_left
          ·
           simp only [Act.put, List.setIfInBounds_toArray, List.set_cons_zero, List.set_cons_succ, i64_w, i32_w]
           rfl
          refine one_ (i := 17) (N := some 9) #[true, true, true, true, true, true, true, true, true, true, true, true, true, true, true, true, true, true, false] rfl rfl (by kernel_rfl) (by decide) (fun K hK => ?_)
          refine event_step (w1 := wf12_14_15.alloc (.cells #[.int .i64 0, .int .i64 0, .int .i64 0, .slice none 0 0] 28)) (v := .pointer (some ⟨wf12_14_15.heap.size, 0, none⟩)) (by rfl) (by go_simp) ?_
          have hb6 : Below wf12_14_15.heap.size wf12_14_15 (wf12_14_15.alloc (.cells #[.int .i64 0, .int .i64 0, .int .i64 0, .slice none 0 0] 28)) := below_alloc (Below.refl _ _) _
          have hS0 := Kd.S_mono (Kd.S_bound HS.out) (fun k hk => Nat.ne_of_lt hk.2.2.1)
          have n2_ := Kd.S_below (Kd.S_mono (Kd.S_bound HS.out) (fun k hk => Nat.ne_of_lt hk.2.2.1)) hb6
          have n3_ := blk_new wf12_14_15 (.cells #[.int .i64 0, .int .i64 0, .int .i64 0, .slice none 0 0] 28)
          have n1_ := below_step HB.out hb6
          have hbx := HB.out.size
          have hcell6 := pw_cell_below hb6 hHeld
          generalize hW6 : wf12_14_15.alloc (.cells #[.int .i64 0, .int .i64 0, .int .i64 0, .slice none 0 0] 28) = wf12_14_15_17 at hb6 n1_ n2_ n3_ hcell6 ⊢
          clear hW6 HS HB hS0 hb6
          generalize wf12_14_15.heap.size = bx at n2_ n3_ hbx ⊢
          have HS := Aside0.mk n2_
          have HB := Aside0.mk n1_
          have BX := Aside0.mk n3_
          have GX := Aside0.mk hbx
          clear n1_ n2_ n3_ hbx
          refine hK.out _ _ (hcell6) (fun hHeld => ?_)
          clear hK K
          refine norm_ (a' := ?_) ?_ ?_
          rotate_left
          ·
           show Act.put _ (some 9) _ = _
           simp only [Act.put, List.setIfInBounds_toArray, List.set_cons_zero, List.set_cons_succ, i64_w, i32_w]
           rfl
          exact norm_ (by simp only [putAll, Act.put, List.setIfInBounds_toArray, List.set_cons_zero, List.set_cons_succ]) (hCont bx _ ⟨hHeld, HS.out, HB.out, BX.out, GX.out⟩)
         ·
          skip
          refine event_step (w1 := wf12_14.alloc (.cells #[.int .i64 0, .int .i64 0, .int .i64 0, .slice none 0 0] 28)) (v := .pointer (some ⟨wf12_14.heap.size, 0, none⟩)) (by rfl) (by go_simp) ?_
          have hb6 : Below wf12_14.heap.size wf12_14 (wf12_14.alloc (.cells #[.int .i64 0, .int .i64 0, .int .i64 0, .slice none 0 0] 28)) := below_alloc (Below.refl _ _) _
          have hS0 := Kd.S_mono (Kd.S_bound HS.out) (fun k hk => Nat.ne_of_lt hk.2.2.1)
          have n2_ := Kd.S_below (Kd.S_mono (Kd.S_bound HS.out) (fun k hk => Nat.ne_of_lt hk.2.2.1)) hb6
          have n3_ := blk_new wf12_14 (.cells #[.int .i64 0, .int .i64 0, .int .i64 0, .slice none 0 0] 28)
          have n1_ := below_step HB.out hb6
          have hbx := HB.out.size
          have hcell6 := pw_cell_below hb6 hHeld
          generalize hW6 : wf12_14.alloc (.cells #[.int .i64 0, .int .i64 0, .int .i64 0, .slice none 0 0] 28) = wf12_14_17 at hb6 n1_ n2_ n3_ hcell6 ⊢
          clear hW6 HS HB hS0 hb6
          generalize wf12_14.heap.size = bx at n2_ n3_ hbx ⊢
          have HS := Aside0.mk n2_
          have HB := Aside0.mk n1_
          have BX := Aside0.mk n3_
          have GX := Aside0.mk hbx
          clear n1_ n2_ n3_ hbx
          refine hK.out _ _ (hcell6) (fun hHeld => ?_)
          clear hK K
          refine norm_ (a' := ?_) ?_ ?_
          rotate_left
          ·
           show Act.put _ (some 9) _ = _
           simp only [Act.put, List.setIfInBounds_toArray, List.set_cons_zero, List.set_cons_succ, i64_w, i32_w]
           rfl
          refine one_ (i := 15) (N := some 52) #[true, true, true, true, true, true, true, true, true, true, true, true, true, true, true, true, false, true, false] rfl rfl (by kernel_rfl) (by decide) (fun K hK => ?_)
          refine goes_ Try.func24 (by kernel_rfl) rfl #[.int .i64 (rd e ii), .int .i64 av] (by rfl) rfl rfl (by simp only [List.map_toArray, List.map_cons, List.map_nil]; rfl) ?_
          with_reducible refine (parquetryref12_Way.calls (rd e ii) av sw _ HSW.out).mono ?_
          rintro e_ wf12_14_17_15 ⟨rfl, hb6⟩
          refine ⟨_, rfl, ?_⟩
          have nx_ := Aside0.mk (blk_below BX.out hb6)
          clear BX
          have BX := nx_
          clear nx_
          have n0_ := Aside0.mk (Kd.S_below HS.out hb6)
          have n1_ := Aside0.mk (below_step HB.out hb6)
          clear HS HB
          have HS := n0_
          have HB := n1_
          clear n0_ n1_
          refine hK.out _ _ (pw_cell_below hb6 hHeld) (fun hHeld => ?_)
          clear hK K
          refine norm_ (a' := ?_) ?_ ?_
          rotate_left
          ·
           show Act.put _ (some 52) _ = _
           simp only [Act.put, List.setIfInBounds_toArray, List.set_cons_zero, List.set_cons_succ, i64_w, i32_w]
           rfl
          refine pure_ (i := 16) (N := some 53) (v := ?_) (a' := ?_) #[true, true, true, true, true, true, true, true, true, true, true, true, true, true, true, true, true, true, false] rfl rfl (by kernel_rfl) (fun _ _ _ h => h) (Or.inl ⟨by rfl, ?_⟩) ?_ ?_
          rotate_left
          ·
           intro w'
           go_simp
           with_reducible rfl
          rotate_left
          ·
           simp only [Act.put, List.setIfInBounds_toArray, List.set_cons_zero, List.set_cons_succ, i64_w, i32_w]
           rfl
          exact norm_ (by simp only [putAll, Act.put, List.setIfInBounds_toArray, List.set_cons_zero, List.set_cons_succ]) (hCont bx _ ⟨hHeld, HS.out, HB.out, BX.out, GX.out⟩)
        ·
         skip
         refine event_step (w1 := wf12.alloc (.cells #[.int .i64 0, .int .i64 0, .int .i64 0, .slice none 0 0] 28)) (v := .pointer (some ⟨wf12.heap.size, 0, none⟩)) (by rfl) (by go_simp) ?_
         have hb6 : Below wf12.heap.size wf12 (wf12.alloc (.cells #[.int .i64 0, .int .i64 0, .int .i64 0, .slice none 0 0] 28)) := below_alloc (Below.refl _ _) _
         have hS0 := Kd.S_mono (Kd.S_bound HS.out) (fun k hk => Nat.ne_of_lt hk.2.2.1)
         have n2_ := Kd.S_below (Kd.S_mono (Kd.S_bound HS.out) (fun k hk => Nat.ne_of_lt hk.2.2.1)) hb6
         have n3_ := blk_new wf12 (.cells #[.int .i64 0, .int .i64 0, .int .i64 0, .slice none 0 0] 28)
         have n1_ := below_step HB.out hb6
         have hbx := HB.out.size
         have hcell6 := pw_cell_below hb6 hHeld
         generalize hW6 : wf12.alloc (.cells #[.int .i64 0, .int .i64 0, .int .i64 0, .slice none 0 0] 28) = wf12_17 at hb6 n1_ n2_ n3_ hcell6 ⊢
         clear hW6 HS HB hS0 hb6
         generalize wf12.heap.size = bx at n2_ n3_ hbx ⊢
         have HS := Aside0.mk n2_
         have HB := Aside0.mk n1_
         have BX := Aside0.mk n3_
         have GX := Aside0.mk hbx
         clear n1_ n2_ n3_ hbx
         refine hK.out _ _ (hcell6) (fun hHeld => ?_)
         clear hK K
         refine norm_ (a' := ?_) ?_ ?_
         rotate_left
         ·
          show Act.put _ (some 9) _ = _
          simp only [Act.put, List.setIfInBounds_toArray, List.set_cons_zero, List.set_cons_succ, i64_w, i32_w]
          rfl
         refine one_ (i := 14) (N := some 51) #[true, true, true, true, true, true, true, true, true, true, true, true, true, true, true, false, false, true, false] rfl rfl (by kernel_rfl) (by decide) (fun K hK => ?_)
         refine goes_ Try.func25 (by kernel_rfl) rfl #[.slice (some ade) e.length c1, .int .i64 p, .int .i64 a1] (by rfl) rfl rfl (by simp only [List.map_toArray, List.map_cons, List.map_nil]; rfl) ?_
         with_reducible refine (parquetryref12_at.calls (some ade) c1 e p a1 av _ (Kd.C_below HR1.out HB.out) HC1.out HAV.out).mono ?_
         rintro e_ wf12_17_14 ⟨rfl, hd6⟩
         refine ⟨_, rfl, ?_⟩
         have hb6 := hd6.below
         have nx_ := Aside0.mk (blk_below BX.out hb6)
         clear BX
         have BX := nx_
         clear nx_
         have n0_ := Aside0.mk (Kd.S_below HS.out hb6)
         have n1_ := Aside0.mk (below_step HB.out hb6)
         clear HS HB
         have HS := n0_
         have HB := n1_
         clear n0_ n1_
         refine hK.out _ _ (pw_cell_below hb6 hHeld) (fun hHeld => ?_)
         clear hK K
         refine norm_ (a' := ?_) ?_ ?_
         rotate_left
         ·
          show Act.put _ (some 51) _ = _
          simp only [Act.put, List.setIfInBounds_toArray, List.set_cons_zero, List.set_cons_succ, i64_w, i32_w]
          rfl
         refine one_ (i := 15) (N := some 52) #[true, true, true, true, true, true, true, true, true, true, true, true, true, true, true, true, false, true, false] rfl rfl (by kernel_rfl) (by decide) (fun K hK => ?_)
         refine goes_ Try.func24 (by kernel_rfl) rfl #[.int .i64 (rd e ii), .int .i64 av] (by rfl) rfl rfl (by simp only [List.map_toArray, List.map_cons, List.map_nil]; rfl) ?_
         with_reducible refine (parquetryref12_Way.calls (rd e ii) av sw _ HSW.out).mono ?_
         rintro e_ wf12_17_14_15 ⟨rfl, hb6⟩
         refine ⟨_, rfl, ?_⟩
         have nx_ := Aside0.mk (blk_below BX.out hb6)
         clear BX
         have BX := nx_
         clear nx_
         have n0_ := Aside0.mk (Kd.S_below HS.out hb6)
         have n1_ := Aside0.mk (below_step HB.out hb6)
         clear HS HB
         have HS := n0_
         have HB := n1_
         clear n0_ n1_
         refine hK.out _ _ (pw_cell_below hb6 hHeld) (fun hHeld => ?_)
         clear hK K
         refine norm_ (a' := ?_) ?_ ?_
         rotate_left
         ·
          show Act.put _ (some 52) _ = _
          simp only [Act.put, List.setIfInBounds_toArray, List.set_cons_zero, List.set_cons_succ, i64_w, i32_w]
          rfl
         refine pure_ (i := 16) (N := some 53) (v := ?_) (a' := ?_) #[true, true, true, true, true, true, true, true, true, true, true, true, true, true, true, true, true, true, false] rfl rfl (by kernel_rfl) (fun _ _ _ h => h) (Or.inl ⟨by rfl, ?_⟩) ?_ ?_
         rotate_left
         ·
          intro w'
          go_simp
          with_reducible rfl
         rotate_left
         ·
          simp only [Act.put, List.setIfInBounds_toArray, List.set_cons_zero, List.set_cons_succ, i64_w, i32_w]
          rfl
         exact norm_ (by simp only [putAll, Act.put, List.setIfInBounds_toArray, List.set_cons_zero, List.set_cons_succ]) (hCont bx _ ⟨hHeld, HS.out, HB.out, BX.out, GX.out⟩)
       ·
        skip
        refine event_step (w1 := W2.alloc (.cells #[.int .i64 0, .int .i64 0, .int .i64 0, .slice none 0 0] 28)) (v := .pointer (some ⟨W2.heap.size, 0, none⟩)) (by rfl) (by go_simp) ?_
        have hb6 : Below W2.heap.size W2 (W2.alloc (.cells #[.int .i64 0, .int .i64 0, .int .i64 0, .slice none 0 0] 28)) := below_alloc (Below.refl _ _) _
        have hS0 := Kd.S_mono (Kd.S_bound HS.out) (fun k hk => Nat.ne_of_lt hk.2.2.1)
        have n2_ := Kd.S_below (Kd.S_mono (Kd.S_bound HS.out) (fun k hk => Nat.ne_of_lt hk.2.2.1)) hb6
        have n3_ := blk_new W2 (.cells #[.int .i64 0, .int .i64 0, .int .i64 0, .slice none 0 0] 28)
        have n1_ := below_step HB.out hb6
        have hbx := HB.out.size
        have hcell6 := pw_cell_below hb6 hHeld
        generalize hW6 : W2.alloc (.cells #[.int .i64 0, .int .i64 0, .int .i64 0, .slice none 0 0] 28) = wf17 at hb6 n1_ n2_ n3_ hcell6 ⊢
        clear hW6 HS HB hS0 hb6
        generalize W2.heap.size = bx at n2_ n3_ hbx ⊢
        have HS := Aside0.mk n2_
        have HB := Aside0.mk n1_
        have BX := Aside0.mk n3_
        have GX := Aside0.mk hbx
        clear n1_ n2_ n3_ hbx
        refine hK.out _ _ (hcell6) (fun hHeld => ?_)
        clear hK K
        refine norm_ (a' := ?_) ?_ ?_
        rotate_left
        ·
         show Act.put _ (some 9) _ = _
         simp only [Act.put, List.setIfInBounds_toArray, List.set_cons_zero, List.set_cons_succ, i64_w, i32_w]
         rfl
        refine one_ (i := 12) (N := some 49) #[true, true, true, true, true, true, true, true, true, true, true, true, true, true, false, false, false, true, false] rfl rfl (by kernel_rfl) (by decide) (fun K hK => ?_)
        refine goes_ Try.func26 (by kernel_rfl) rfl #[.slice (some ade) e.length c1, .int .i64 (wrap64 (ii - 1)), .int .i64 (-1)] (by rfl) rfl rfl (by simp only [List.map_toArray, List.map_cons, List.map_nil]; rfl) ?_
        with_reducible refine (parquetryref12_Near.calls k1 (some ade) c1 e (wrap64 (ii - 1)) (-1) p _ (Kd.C_below HR1.out HB.out) HC1.out HP.out).mono ?_
        rintro e_ wf17_12 ⟨rfl, hd6⟩
        refine ⟨_, rfl, ?_⟩
        have hb6 := hd6.below
        have nx_ := Aside0.mk (blk_below BX.out hb6)
        clear BX
        have BX := nx_
        clear nx_
        have n0_ := Aside0.mk (Kd.S_below HS.out hb6)
        have n1_ := Aside0.mk (below_step HB.out hb6)
        clear HS HB
        have HS := n0_
        have HB := n1_
        clear n0_ n1_
        refine hK.out _ _ (pw_cell_below hb6 hHeld) (fun hHeld => ?_)
        clear hK K
        refine norm_ (a' := ?_) ?_ ?_
        rotate_left
        ·
         show Act.put _ (some 49) _ = _
         simp only [Act.put, List.setIfInBounds_toArray, List.set_cons_zero, List.set_cons_succ, i64_w, i32_w]
         rfl
        refine one_ (i := 14) (N := some 51) #[true, true, true, true, true, true, true, true, true, true, true, true, true, true, true, false, false, true, false] rfl rfl (by kernel_rfl) (by decide) (fun K hK => ?_)
        refine goes_ Try.func25 (by kernel_rfl) rfl #[.slice (some ade) e.length c1, .int .i64 p, .int .i64 a1] (by rfl) rfl rfl (by simp only [List.map_toArray, List.map_cons, List.map_nil]; rfl) ?_
        with_reducible refine (parquetryref12_at.calls (some ade) c1 e p a1 av _ (Kd.C_below HR1.out HB.out) HC1.out HAV.out).mono ?_
        rintro e_ wf17_12_14 ⟨rfl, hd6⟩
        refine ⟨_, rfl, ?_⟩
        have hb6 := hd6.below
        have nx_ := Aside0.mk (blk_below BX.out hb6)
        clear BX
        have BX := nx_
        clear nx_
        have n0_ := Aside0.mk (Kd.S_below HS.out hb6)
        have n1_ := Aside0.mk (below_step HB.out hb6)
        clear HS HB
        have HS := n0_
        have HB := n1_
        clear n0_ n1_
        refine hK.out _ _ (pw_cell_below hb6 hHeld) (fun hHeld => ?_)
        clear hK K
        refine norm_ (a' := ?_) ?_ ?_
        rotate_left
        ·
         show Act.put _ (some 51) _ = _
         simp only [Act.put, List.setIfInBounds_toArray, List.set_cons_zero, List.set_cons_succ, i64_w, i32_w]
         rfl
        refine one_ (i := 15) (N := some 52) #[true, true, true, true, true, true, true, true, true, true, true, true, true, true, true, true, false, true, false] rfl rfl (by kernel_rfl) (by decide) (fun K hK => ?_)
        refine goes_ Try.func24 (by kernel_rfl) rfl #[.int .i64 (rd e ii), .int .i64 av] (by rfl) rfl rfl (by simp only [List.map_toArray, List.map_cons, List.map_nil]; rfl) ?_
        with_reducible refine (parquetryref12_Way.calls (rd e ii) av sw _ HSW.out).mono ?_
        rintro e_ wf17_12_14_15 ⟨rfl, hb6⟩
        refine ⟨_, rfl, ?_⟩
        have nx_ := Aside0.mk (blk_below BX.out hb6)
        clear BX
        have BX := nx_
        clear nx_
        have n0_ := Aside0.mk (Kd.S_below HS.out hb6)
        have n1_ := Aside0.mk (below_step HB.out hb6)
        clear HS HB
        have HS := n0_
        have HB := n1_
        clear n0_ n1_
        refine hK.out _ _ (pw_cell_below hb6 hHeld) (fun hHeld => ?_)
        clear hK K
        refine norm_ (a' := ?_) ?_ ?_
        rotate_left
        ·
         show Act.put _ (some 52) _ = _
         simp only [Act.put, List.setIfInBounds_toArray, List.set_cons_zero, List.set_cons_succ, i64_w, i32_w]
         rfl
        refine pure_ (i := 16) (N := some 53) (v := ?_) (a' := ?_) #[true, true, true, true, true, true, true, true, true, true, true, true, true, true, true, true, true, true, false] rfl rfl (by kernel_rfl) (fun _ _ _ h => h) (Or.inl ⟨by rfl, ?_⟩) ?_ ?_
        rotate_left
        ·
         intro w'
         go_simp
         with_reducible rfl
        rotate_left
        ·
         simp only [Act.put, List.setIfInBounds_toArray, List.set_cons_zero, List.set_cons_succ, i64_w, i32_w]
         rfl
        exact norm_ (by simp only [putAll, Act.put, List.setIfInBounds_toArray, List.set_cons_zero, List.set_cons_succ]) (hCont bx _ ⟨hHeld, HS.out, HB.out, BX.out, GX.out⟩)
      clear HS HB hHeld
      rintro bx W6 ⟨hHeld, hs6, hb6, hx6, hg6⟩
      have HS := Aside0.mk hs6
      have HB := Aside0.mk hb6
      have BX := Aside0.mk hx6
      have GX := Aside0.mk hg6
      clear hs6 hb6 hx6 hg6
      refine norm_ (a' := ?_) ?_ ?_
      rotate_left
      ·
       simp only [putAll, Act.put, List.setIfInBounds_toArray, List.set_cons_zero, List.set_cons_succ]
       rfl
      refine last_ (i := 18) (N := none) #[true, true, true, true, true, true, true, true, true, true, true, true, true, true, true, true, true, true, true] rfl rfl (by kernel_rfl) (by decide) (fun K hK => ?_)
      have hs0 := (blk_cell BX.out 0).trans (show _ = some (.int .i64 0) from rfl)
      have hs1 := (blk_cell BX.out 1).trans (show _ = some (.int .i64 0) from rfl)
      have hs2 := (blk_cell BX.out 2).trans (show _ = some (.int .i64 0) from rfl)
      have hs3 := (blk_cell BX.out 3).trans (show _ = some (.slice none 0 0) from rfl)
      have hf0 := blk_frozen BX.out 0
      have hf1 := blk_frozen BX.out 1
      have hf2 := blk_frozen BX.out 2
      have hf3 := blk_frozen BX.out 3
      refine skip_ (w1 := ?_) (by rfl) rfl ?_ ?_
      rotate_left
      ·
       go_simp
       rfl
      refine hK.out _ _ ?_
      clear hK K
      refine done_ (by kernel_rfl) ?_
      obtain ⟨W7, hW7⟩ : ∃ W7, ((((W6.setCell ⟨bx, 0, none⟩ (.int .i64 (rd e ii))).setCell ⟨bx, 1, none⟩ (.int .i64 sw)).setCell ⟨bx, 2, none⟩ (.int .i64 0)).setCell ⟨bx, 3, none⟩ (.slice none 0 0)) = W7 := ⟨_, rfl⟩
      have n0_ := Aside0.mk (show W7.heap[bx]? = some (.cells #[.int .i64 (rd e ii), .int .i64 sw, .int .i64 0, .slice none 0 0] 28 (0, 0)) by rw [← hW7]; exact blk_put (cs := #[.int .i64 (rd e ii), .int .i64 sw, .int .i64 0, .slice none 0 0]) (blk_put (cs := #[.int .i64 (rd e ii), .int .i64 sw, .int .i64 0, .slice none 0 0]) (blk_put (cs := #[.int .i64 (rd e ii), .int .i64 0, .int .i64 0, .slice none 0 0]) (blk_put (cs := #[.int .i64 0, .int .i64 0, .int .i64 0, .slice none 0 0]) BX.out 0 _ rfl) 1 _ rfl) 2 _ rfl) 3 _ rfl)
      have n1_ := Aside0.mk (show Kd.S k28 28 W7 w1.heap.size (fun k => k ≠ bx) (.slice A out.length c) out by rw [← hW7]; exact Kd.S_far (p := ⟨bx, 3, none⟩) (Kd.S_far (p := ⟨bx, 2, none⟩) (Kd.S_far (p := ⟨bx, 1, none⟩) (Kd.S_far (p := ⟨bx, 0, none⟩) HS.out (fun _ hk => hk) _) (fun _ hk => hk) _) (fun _ hk => hk) _) (fun _ hk => hk) _)
      have n2_ := Aside0.mk (show Below w1.heap.size w1 W7 by rw [← hW7]; exact (((HB.out.setCell (p := ⟨bx, 0, none⟩) GX.out _).setCell (p := ⟨bx, 1, none⟩) GX.out _).setCell (p := ⟨bx, 2, none⟩) GX.out _).setCell (p := ⟨bx, 3, none⟩) GX.out _)
      rw [hW7]
      clear hW7 hs0 hs1 hs2 hs3 hf0 hf1 hf2 hf3 HS HB BX hHeld HP HAV HSW
      have HS := n1_
      have HB := n2_
      have BX := n0_
      clear n0_ n1_ n2_
      go_wp2
      go_loopg [10, 11] k1 (fun kx s10 s11 wr => ∃ (lx px : Int) (t : List Int) (A5 : Option Addr) (c5 : Nat), s10 = .int .i64 lx ∧ s11 = .int .i64 px ∧ Aside0 (parquetryref12_Sequences.ch kx l0 e px lx t = some (ats, la)) ∧ Aside0 (wr.heap[bx]? = some (.cells #[.int .i64 (rd e ii), .int .i64 sw, .int .i64 0, .slice A5 t.length c5] 28 (0, 0))) ∧ Aside0 (Kd.R (Kd.int .i64) 3 wr w1.heap.size (fun k => k ≠ bx) (.slice A5 t.length c5) t) ∧ Aside0 (Kd.S k28 28 wr w1.heap.size (fun k => k ≠ bx ∧ some k ≠ (Value.slice A5 t.length c5).ownBlock) (.slice A out.length c) out) ∧ Aside0 (Below w1.heap.size w1 wr))
      case atStart => exact ⟨ii, ii, [], none, 0, rfl, rfl, HCH, BX, ⟨Kd.R_nil _ _ _ _ _⟩, ⟨Kd.S_mono HS.out (fun k hk => ⟨hk, by simp [Value.ownBlock]⟩)⟩, HB⟩
      case round =>
       clear HCH HS HB BX
       obtain ⟨lx, px, t, A5, c5, rfl, rfl, HCH, BX, HT, HS, HB⟩ := hrel
       have h := HCH.out
       clear HCH
       cases gk with
       | zero => exact absurd h (by simp [parquetryref12_Sequences.ch])
       | succ k2 =>
        unfold parquetryref12_Sequences.ch at h
        by_cases hp : 0 ≤ px
        ·
         rw [if_pos hp] at h
         split at h
         rotate_left
         ·
          cases h
         rename_i htl
         obtain ⟨qx, hqx, h⟩ := Option.bind_eq_some_iff.mp h
         have HNX := Aside0.mk hqx
         have HCH := Aside0.mk h
         have b3 : decide (px ≥ 0) = true := decide_eq_true hp
         have z3 := (blk_cell BX.out 3).trans (show _ = some (.slice A5 t.length c5) from rfl)
         have HTL := Aside0.mk htl
         clear h hqx hp htl
         go_upto_region 13 with ((with_reducible refine gate_builtin (b := .append) (xs := #[.tmp 63, .tmp 65]) rfl ?_); at_builtin; refine Kd.R_append (Kd.int .i64) (w0 := w1) w1.heap.size rfl (.tmp 63) (.tmp 65) 22 3 (.int .i64 0) 8 rfl Try.underlying22 info3 rfl (by decide) (by omega) (.slice A5 t.length c5) t px [.int .i64 px] (fun k => k ≠ bx) (fun _ => False) (by first | rfl | (go_simp; done)) (by first | rfl | (go_simp; done) | (go_simp; rfl)) rfl (fun _ hk => hk.elim) (fun k hk => by have := blk_lt BX.out; omega) HT.out HB.out HB.out.size (by have := HTL.out; omega) ?_; intro v_ w6 ho hb6 hg6 hat; obtain ⟨A6, c6, rfl⟩ := Kd.R_slice ho; have n0_ := Aside0.mk (blk_grown BX.out hg6 (fun e_ => HT.out.1 _ e_.symm rfl)); have n1_ := Aside0.mk ho; have n2_ := Aside0.mk hb6; have n3_ := Aside0.mk (Kd.S_mono (Kd.S_bound (Kd.S_grown HS.out hg6 (fun k hk e_ => hk.2 e_))) (fun k hk => hk.1)); have n4_ := Aside0.mk hat; have n5_ := Aside0.mk (Kd.S_mono (Kd.S_bound HS.out) (fun k hk => (⟨hk.1, hk.2.2.1⟩ : (k ≠ bx ∧ some k ≠ (Value.slice A5 t.length c5).ownBlock) ∧ k < _))); have n6_ := Aside0.mk (Kd.S_grown n5_.out hg6 (fun k hk e_ => hk.1.2 e_)); have z3' := (blk_cell n0_.out 3).trans (show _ = some (.slice A5 t.length c5) from rfl); have f3' := blk_frozen n0_.out 3; clear ho hb6 hg6 hat z3)
         obtain ⟨W8, hW8⟩ : ∃ W8, w6.setCell ⟨bx, 3, none⟩ (.slice A6 (t.length + 1) c6) = W8 := ⟨_, rfl⟩
         have hl1 : (t ++ [px]).length = t.length + 1 := by simp
         have m0_ := Aside0.mk (show W8.heap[bx]? = some (.cells #[.int .i64 (rd e ii), .int .i64 sw, .int .i64 0, .slice A6 (t ++ [px]).length c6] 28 (0, 0)) by rw [← hW8, hl1]; exact blk_put (cs := #[.int .i64 (rd e ii), .int .i64 sw, .int .i64 0, .slice A5 t.length c5]) n0_.out 3 _ rfl)
         have m1_ := Aside0.mk (show Kd.R (Kd.int .i64) 3 W8 w1.heap.size (fun k => k ≠ bx) (.slice A6 (t ++ [px]).length c6) (t ++ [px]) by rw [← hW8]; exact Kd.R_far (p := ⟨bx, 3, none⟩) n1_.out (fun _ hk => hk) _)
         have m2_ := Aside0.mk (show Below w1.heap.size w1 W8 by rw [← hW8]; exact n2_.out.setCell (p := ⟨bx, 3, none⟩) GX.out _)
         have m3_ := Aside0.mk (show Kd.S k28 28 W8 w1.heap.size (fun k => k ≠ bx ∧ some k ≠ (Value.slice A6 (t ++ [px]).length c6).ownBlock) (.slice A out.length c) out by
          rw [← hW8]
          refine Kd.S_far (p := ⟨bx, 3, none⟩) (Kd.S_mono n6_.out (fun k hk => ⟨hk.1.1, fun e_ => ?_⟩)) (fun _ hk => hk.1) _
          rcases n4_.out with h4 | ⟨b, h4, h5⟩
          ·
           exact hk.1.2 (e_.trans h4)
          ·
           rw [h4] at e_
           injection e_ with e_
           have := hk.2
           omega)
         have CT := Aside0.mk (parquetryref12_Next.calls k2 A0 c0 l0 (some ade) c1 e px qx W8 (Kd.C_below HR0.out (below_step HB1.out m2_.out)) HC0.out (Kd.C_below HR1.out m2_.out) HC1.out HNX.out)
         try rw [hW8]
         clear hW8 n0_ n1_ n2_ n3_ n4_ n5_ n6_ z3' f3' HT HS HB BX HNX HTL
         go_wp2_with (go_at_call 27; (with_reducible refine CT.out.mono ?_); rintro e_ w9 ⟨rfl, hd⟩; have hb6 := hd.below; have n0_ := Aside0.mk (blk_below m0_.out hb6); have n1_ := Aside0.mk (Kd.R_below m1_.out hb6); have n2_ := Aside0.mk (below_step m2_.out hb6); have n3_ := Aside0.mk (Kd.S_below m3_.out hb6); clear hd hb6 m0_ m1_ m2_ m3_)
         go_roundg k2
         case measure => exact Nat.lt_succ_self _
         case rel => exact ⟨px, qx, t ++ [px], A6, c6, rfl, rfl, HCH, n0_, n1_, n3_, n2_⟩
        ·
         rw [if_neg hp] at h
         simp only [Option.some.injEq, Prod.mk.injEq] at h
         obtain ⟨h1, h2⟩ := h
         have b3 : decide (px ≥ 0) = false := decide_eq_false hp
         subst h1
         subst h2
         clear hp
         have hb2 := HB2.out
         unfold parquetryref12_Sequences.bh at hb2
         split at hb2
         rotate_left
         ·
          cases hb2
         rename_i hla
         obtain ⟨tv, htv, hb2⟩ := Option.bind_eq_some_iff.mp hb2
         have HTV := Aside0.mk htv
         have p5 : (0 ≤ lx) = True := eq_true hla.1
         have p6 : (lx < (l0.length : Int)) = True := eq_true hla.2
         obtain ⟨adl, el, yl⟩ := Kd.at_int (Kd.C_below HR0.out (below_step HB1.out HB.out)) lx hla.1 hla.2
         subst el
         clear HB2 htv hla
         have G := Aside0.mk hi
         cases tv with
         | false =>
          rw [if_neg (by decide)] at hb2
          obtain rfl := Option.some.inj hb2
          clear hb2
          go_upto_region 17 with (first | (go_at_call 26; (with_reducible refine (parquetryref12_Near.calls k1 (some ade) c1 e (wrap64 (lx + 1)) 1 q _ ?s1 ?s2 HQ.out).mono ?_); (case s1 => exact Kd.C_below HR1.out HB.out); (case s2 => exact HC1.out); rintro e_ whq ⟨rfl, hd⟩; have hb6 := hd.below; clear hd; have n0_ := Aside0.mk (blk_below BX.out hb6); have n1_ := Aside0.mk (Kd.R_below HT.out hb6); have n2_ := Aside0.mk (below_step HB.out hb6); have n3_ := Aside0.mk (Kd.S_below HS.out hb6); have n4_ := pw_cell_below hb6 yl; clear hb6 BX HT HS HB yl; have BX := n0_; have HT := n1_; have HB := n2_; have HS := n3_; have yl := n4_; clear n0_ n1_ n2_ n3_ n4_) | (go_at_call 25; (with_reducible refine (parquetryref12_at.calls (some ade) c1 e q a1 bv _ ?s1 ?s2 HBV.out).mono ?_); (case s1 => exact Kd.C_below HR1.out HB.out); (case s2 => exact HC1.out); rintro e_ whbv ⟨rfl, hd⟩; have hb6 := hd.below; clear hd; have n0_ := Aside0.mk (blk_below BX.out hb6); have n1_ := Aside0.mk (Kd.R_below HT.out hb6); have n2_ := Aside0.mk (below_step HB.out hb6); have n3_ := Aside0.mk (Kd.S_below HS.out hb6); have n4_ := pw_cell_below hb6 yl; clear hb6 BX HT HS HB yl; have BX := n0_; have HT := n1_; have HB := n2_; have HS := n3_; have yl := n4_; clear n0_ n1_ n2_ n3_ n4_) | (go_at_call 28; (with_reducible refine (parquetryref10_Initiator.calls (rd l0 lx) false _  HTV.out).mono ?_); rintro e_ whtv ⟨rfl, hd⟩; have hb6 := hd.below; clear hd; have n0_ := Aside0.mk (blk_below BX.out hb6); have n1_ := Aside0.mk (Kd.R_below HT.out hb6); have n2_ := Aside0.mk (below_step HB.out hb6); have n3_ := Aside0.mk (Kd.S_below HS.out hb6); have n4_ := pw_cell_below hb6 yl; clear hb6 BX HT HS HB yl; have BX := n0_; have HT := n1_; have HB := n2_; have HS := n3_; have yl := n4_; clear n0_ n1_ n2_ n3_ n4_))
          have hye := Kd.at_int (Kd.C_below HR1.out HB.out) ii g0 hi
          obtain ⟨ad2', e2', y2⟩ := hye
          obtain rfl := Option.some.inj e2'
          go_upto_region 18 with (go_at_call 24; (with_reducible refine (parquetryref12_Way.calls (rd e ii) bv eo _  HEO.out).mono ?_); rintro e_ wheo ⟨rfl, hb6⟩; have n0_ := Aside0.mk (blk_below BX.out hb6); have n1_ := Aside0.mk (Kd.R_below HT.out hb6); have n2_ := Aside0.mk (below_step HB.out hb6); have n3_ := Aside0.mk (Kd.S_below HS.out hb6); have n4_ := pw_cell_below hb6 yl; clear hb6 BX HT HS HB yl; have BX := n0_; have HT := n1_; have HB := n2_; have HS := n3_; have yl := n4_; clear n0_ n1_ n2_ n3_ n4_; have z2 := (blk_cell BX.out 2).trans (show _ = some (.int .i64 0) from rfl); have f2 := blk_frozen BX.out 2)
          clear y2 e2'
          obtain ⟨W11, hW11⟩ : ∃ W11, wheo.setCell ⟨bx, 2, none⟩ (.int .i64 eo) = W11 := ⟨_, rfl⟩
          have n0_ := show W11.heap[bx]? = some (.cells #[.int .i64 (rd e ii), .int .i64 sw, .int .i64 eo, .slice A5 t.length c5] 28 (0, 0)) by rw [← hW11]; exact blk_put (cs := #[.int .i64 (rd e ii), .int .i64 sw, .int .i64 0, .slice A5 t.length c5]) BX.out 2 _ rfl
          have n1_ := Aside0.mk (show Kd.R (Kd.int .i64) 3 W11 w1.heap.size (fun k => k ≠ bx) (.slice A5 t.length c5) t by rw [← hW11]; exact Kd.R_far (p := ⟨bx, 2, none⟩) HT.out (fun _ hk => hk) _)
          have n2_ := Aside0.mk (show Below w1.heap.size w1 W11 by rw [← hW11]; exact HB.out.setCell (p := ⟨bx, 2, none⟩) GX.out _)
          have n3_ := Aside0.mk (show Kd.S k28 28 W11 w1.heap.size (fun k => k ≠ bx ∧ some k ≠ (Value.slice A5 t.length c5).ownBlock) (.slice A out.length c) out by rw [← hW11]; exact Kd.S_far (p := ⟨bx, 2, none⟩) HS.out (fun _ hk => hk.1) _)
          have x0 := (blk_cell n0_ 0).trans (show _ = some (.int .i64 (rd e ii)) from rfl)
          have x1 := (blk_cell n0_ 1).trans (show _ = some (.int .i64 sw) from rfl)
          have x2 := (blk_cell n0_ 2).trans (show _ = some (.int .i64 eo) from rfl)
          have x3 := (blk_cell n0_ 3).trans (show _ = some (.slice A5 t.length c5) from rfl)
          try rw [hW11]
          clear hW11 BX HT HS HB n0_ yl z2 f2
          go_wp2_with ((with_reducible refine gate_builtin (b := .append) (xs := #[.tmp 97, .tmp 99]) rfl ?_); at_builtin; refine Kd.S_append k28 (w0 := w1) w1.heap.size rfl (.tmp 97) (.tmp 99) 24 28 (.agg #[(.int .i64 0), (.int .i64 0), (.int .i64 0), (.slice none 0 0)]) 48 rfl Try.underlying24 info28 rfl (by decide) (by omega) (.slice A out.length c) out (⟨rd e ii, sw, eo, t⟩ : S28) [.int .i64 (rd e ii), .int .i64 sw, .int .i64 eo, .slice A5 t.length c5] (fun _ => True) (fun k => some k = (Value.slice A5 t.length c5).ownBlock) (by first | rfl | (go_simp; done)) (by first | rfl | (go_simp; done) | (go_simp; rfl)) (k28_mkM _ _ _ (⟨rd e ii, sw, eo, t⟩ : S28) (Kd.R_tight rfl n1_.out)) (fun k hk => ⟨trivial, Kd.S_away n3_.out (fun j hj e_ => hj.2 (e_ ▸ hk))⟩) (fun _ _ => trivial) (Kd.S_mono n3_.out (fun k hk => ⟨trivial, hk.2⟩)) n2_.out n2_.out.size (by omega) ?_; intro v_ w12 ho hb12 hg12 hat; obtain ⟨gg, cap, rfl, _⟩ := Kd.S_form ho (by simp); have m0_ := Aside0.mk ho; have m1_ := Aside0.mk hb12; clear ho hb12 hg12 hat n1_ n2_ n3_)
          go_roundg k1
          case measure => exact Nat.lt_succ_self _
          case rel => exact ⟨ii + 1, _, _, _, rfl, by rw [List.length_append]; rfl, HH, m0_, m1_⟩
         | true =>
          rw [if_pos (Eq.refl true)] at hb2
          obtain ⟨z, hz, hb2⟩ := Option.bind_eq_some_iff.mp hb2
          have HZ := Aside0.mk hz
          clear hz
          by_cases hzn : z = (l0.length : Int)
          ·
           rw [if_pos hzn] at hb2
           obtain rfl := Option.some.inj hb2
           have b6 : (z == (l0.length : Int)) = true := beq_iff_eq.2 hzn
           clear hb2 hzn
           go_upto_region 17 with (first | (go_at_call 26; (with_reducible refine (parquetryref12_Near.calls k1 (some ade) c1 e (wrap64 (lx + 1)) 1 q _ ?s1 ?s2 HQ.out).mono ?_); (case s1 => exact Kd.C_below HR1.out HB.out); (case s2 => exact HC1.out); rintro e_ whq ⟨rfl, hd⟩; have hb6 := hd.below; clear hd; have n0_ := Aside0.mk (blk_below BX.out hb6); have n1_ := Aside0.mk (Kd.R_below HT.out hb6); have n2_ := Aside0.mk (below_step HB.out hb6); have n3_ := Aside0.mk (Kd.S_below HS.out hb6); have n4_ := pw_cell_below hb6 yl; clear hb6 BX HT HS HB yl; have BX := n0_; have HT := n1_; have HB := n2_; have HS := n3_; have yl := n4_; clear n0_ n1_ n2_ n3_ n4_) | (go_at_call 25; (with_reducible refine (parquetryref12_at.calls (some ade) c1 e q a1 bv _ ?s1 ?s2 HBV.out).mono ?_); (case s1 => exact Kd.C_below HR1.out HB.out); (case s2 => exact HC1.out); rintro e_ whbv ⟨rfl, hd⟩; have hb6 := hd.below; clear hd; have n0_ := Aside0.mk (blk_below BX.out hb6); have n1_ := Aside0.mk (Kd.R_below HT.out hb6); have n2_ := Aside0.mk (below_step HB.out hb6); have n3_ := Aside0.mk (Kd.S_below HS.out hb6); have n4_ := pw_cell_below hb6 yl; clear hb6 BX HT HS HB yl; have BX := n0_; have HT := n1_; have HB := n2_; have HS := n3_; have yl := n4_; clear n0_ n1_ n2_ n3_ n4_) | (go_at_call 28; (with_reducible refine (parquetryref10_Initiator.calls (rd l0 lx) true _  HTV.out).mono ?_); rintro e_ whtv ⟨rfl, hd⟩; have hb6 := hd.below; clear hd; have n0_ := Aside0.mk (blk_below BX.out hb6); have n1_ := Aside0.mk (Kd.R_below HT.out hb6); have n2_ := Aside0.mk (below_step HB.out hb6); have n3_ := Aside0.mk (Kd.S_below HS.out hb6); have n4_ := pw_cell_below hb6 yl; clear hb6 BX HT HS HB yl; have BX := n0_; have HT := n1_; have HB := n2_; have HS := n3_; have yl := n4_; clear n0_ n1_ n2_ n3_ n4_) | (go_at_call 29; (with_reducible refine (parquetryref10_End.calls k1 (some adl) c0 l0 lx z _ ?s1 ?s2 HZ.out).mono ?_); (case s1 => exact Kd.C_below HR0.out (below_step HB1.out HB.out)); (case s2 => exact HC0.out); rintro e_ whz ⟨rfl, hd⟩; have hb6 := hd.below; clear hd; have n0_ := Aside0.mk (blk_below BX.out hb6); have n1_ := Aside0.mk (Kd.R_below HT.out hb6); have n2_ := Aside0.mk (below_step HB.out hb6); have n3_ := Aside0.mk (Kd.S_below HS.out hb6); have n4_ := pw_cell_below hb6 yl; clear hb6 BX HT HS HB yl; have BX := n0_; have HT := n1_; have HB := n2_; have HS := n3_; have yl := n4_; clear n0_ n1_ n2_ n3_ n4_))
           have hye := Kd.at_int (Kd.C_below HR1.out HB.out) ii g0 hi
           obtain ⟨ad2', e2', y2⟩ := hye
           obtain rfl := Option.some.inj e2'
           go_upto_region 18 with (go_at_call 24; (with_reducible refine (parquetryref12_Way.calls (rd e ii) a1 eo _  HEO.out).mono ?_); rintro e_ wheo ⟨rfl, hb6⟩; have n0_ := Aside0.mk (blk_below BX.out hb6); have n1_ := Aside0.mk (Kd.R_below HT.out hb6); have n2_ := Aside0.mk (below_step HB.out hb6); have n3_ := Aside0.mk (Kd.S_below HS.out hb6); have n4_ := pw_cell_below hb6 yl; clear hb6 BX HT HS HB yl; have BX := n0_; have HT := n1_; have HB := n2_; have HS := n3_; have yl := n4_; clear n0_ n1_ n2_ n3_ n4_; have z2 := (blk_cell BX.out 2).trans (show _ = some (.int .i64 0) from rfl); have f2 := blk_frozen BX.out 2)
           clear y2 e2'
           obtain ⟨W11, hW11⟩ : ∃ W11, wheo.setCell ⟨bx, 2, none⟩ (.int .i64 eo) = W11 := ⟨_, rfl⟩
           have n0_ := show W11.heap[bx]? = some (.cells #[.int .i64 (rd e ii), .int .i64 sw, .int .i64 eo, .slice A5 t.length c5] 28 (0, 0)) by rw [← hW11]; exact blk_put (cs := #[.int .i64 (rd e ii), .int .i64 sw, .int .i64 0, .slice A5 t.length c5]) BX.out 2 _ rfl
           have n1_ := Aside0.mk (show Kd.R (Kd.int .i64) 3 W11 w1.heap.size (fun k => k ≠ bx) (.slice A5 t.length c5) t by rw [← hW11]; exact Kd.R_far (p := ⟨bx, 2, none⟩) HT.out (fun _ hk => hk) _)
           have n2_ := Aside0.mk (show Below w1.heap.size w1 W11 by rw [← hW11]; exact HB.out.setCell (p := ⟨bx, 2, none⟩) GX.out _)
           have n3_ := Aside0.mk (show Kd.S k28 28 W11 w1.heap.size (fun k => k ≠ bx ∧ some k ≠ (Value.slice A5 t.length c5).ownBlock) (.slice A out.length c) out by rw [← hW11]; exact Kd.S_far (p := ⟨bx, 2, none⟩) HS.out (fun _ hk => hk.1) _)
           have x0 := (blk_cell n0_ 0).trans (show _ = some (.int .i64 (rd e ii)) from rfl)
           have x1 := (blk_cell n0_ 1).trans (show _ = some (.int .i64 sw) from rfl)
           have x2 := (blk_cell n0_ 2).trans (show _ = some (.int .i64 eo) from rfl)
           have x3 := (blk_cell n0_ 3).trans (show _ = some (.slice A5 t.length c5) from rfl)
           try rw [hW11]
           clear hW11 BX HT HS HB n0_ yl z2 f2
           go_wp2_with ((with_reducible refine gate_builtin (b := .append) (xs := #[.tmp 97, .tmp 99]) rfl ?_); at_builtin; refine Kd.S_append k28 (w0 := w1) w1.heap.size rfl (.tmp 97) (.tmp 99) 24 28 (.agg #[(.int .i64 0), (.int .i64 0), (.int .i64 0), (.slice none 0 0)]) 48 rfl Try.underlying24 info28 rfl (by decide) (by omega) (.slice A out.length c) out (⟨rd e ii, sw, eo, t⟩ : S28) [.int .i64 (rd e ii), .int .i64 sw, .int .i64 eo, .slice A5 t.length c5] (fun _ => True) (fun k => some k = (Value.slice A5 t.length c5).ownBlock) (by first | rfl | (go_simp; done)) (by first | rfl | (go_simp; done) | (go_simp; rfl)) (k28_mkM _ _ _ (⟨rd e ii, sw, eo, t⟩ : S28) (Kd.R_tight rfl n1_.out)) (fun k hk => ⟨trivial, Kd.S_away n3_.out (fun j hj e_ => hj.2 (e_ ▸ hk))⟩) (fun _ _ => trivial) (Kd.S_mono n3_.out (fun k hk => ⟨trivial, hk.2⟩)) n2_.out n2_.out.size (by omega) ?_; intro v_ w12 ho hb12 hg12 hat; obtain ⟨gg, cap, rfl, _⟩ := Kd.S_form ho (by simp); have m0_ := Aside0.mk ho; have m1_ := Aside0.mk hb12; clear ho hb12 hg12 hat n1_ n2_ n3_)
           go_roundg k1
           case measure => exact Nat.lt_succ_self _
           case rel => exact ⟨ii + 1, _, _, _, rfl, by rw [List.length_append]; rfl, HH, m0_, m1_⟩
          ·
           rw [if_neg hzn] at hb2
           obtain rfl := Option.some.inj hb2
           have b6 : (z == (l0.length : Int)) = false := beq_eq_false_iff_ne.2 hzn
           clear hb2 hzn
           go_upto_region 17 with (first | (go_at_call 26; (with_reducible refine (parquetryref12_Near.calls k1 (some ade) c1 e (wrap64 (lx + 1)) 1 q _ ?s1 ?s2 HQ.out).mono ?_); (case s1 => exact Kd.C_below HR1.out HB.out); (case s2 => exact HC1.out); rintro e_ whq ⟨rfl, hd⟩; have hb6 := hd.below; clear hd; have n0_ := Aside0.mk (blk_below BX.out hb6); have n1_ := Aside0.mk (Kd.R_below HT.out hb6); have n2_ := Aside0.mk (below_step HB.out hb6); have n3_ := Aside0.mk (Kd.S_below HS.out hb6); have n4_ := pw_cell_below hb6 yl; clear hb6 BX HT HS HB yl; have BX := n0_; have HT := n1_; have HB := n2_; have HS := n3_; have yl := n4_; clear n0_ n1_ n2_ n3_ n4_) | (go_at_call 25; (with_reducible refine (parquetryref12_at.calls (some ade) c1 e q a1 bv _ ?s1 ?s2 HBV.out).mono ?_); (case s1 => exact Kd.C_below HR1.out HB.out); (case s2 => exact HC1.out); rintro e_ whbv ⟨rfl, hd⟩; have hb6 := hd.below; clear hd; have n0_ := Aside0.mk (blk_below BX.out hb6); have n1_ := Aside0.mk (Kd.R_below HT.out hb6); have n2_ := Aside0.mk (below_step HB.out hb6); have n3_ := Aside0.mk (Kd.S_below HS.out hb6); have n4_ := pw_cell_below hb6 yl; clear hb6 BX HT HS HB yl; have BX := n0_; have HT := n1_; have HB := n2_; have HS := n3_; have yl := n4_; clear n0_ n1_ n2_ n3_ n4_) | (go_at_call 28; (with_reducible refine (parquetryref10_Initiator.calls (rd l0 lx) true _  HTV.out).mono ?_); rintro e_ whtv ⟨rfl, hd⟩; have hb6 := hd.below; clear hd; have n0_ := Aside0.mk (blk_below BX.out hb6); have n1_ := Aside0.mk (Kd.R_below HT.out hb6); have n2_ := Aside0.mk (below_step HB.out hb6); have n3_ := Aside0.mk (Kd.S_below HS.out hb6); have n4_ := pw_cell_below hb6 yl; clear hb6 BX HT HS HB yl; have BX := n0_; have HT := n1_; have HB := n2_; have HS := n3_; have yl := n4_; clear n0_ n1_ n2_ n3_ n4_) | (go_at_call 29; (with_reducible refine (parquetryref10_End.calls k1 (some adl) c0 l0 lx z _ ?s1 ?s2 HZ.out).mono ?_); (case s1 => exact Kd.C_below HR0.out (below_step HB1.out HB.out)); (case s2 => exact HC0.out); rintro e_ whz ⟨rfl, hd⟩; have hb6 := hd.below; clear hd; have n0_ := Aside0.mk (blk_below BX.out hb6); have n1_ := Aside0.mk (Kd.R_below HT.out hb6); have n2_ := Aside0.mk (below_step HB.out hb6); have n3_ := Aside0.mk (Kd.S_below HS.out hb6); have n4_ := pw_cell_below hb6 yl; clear hb6 BX HT HS HB yl; have BX := n0_; have HT := n1_; have HB := n2_; have HS := n3_; have yl := n4_; clear n0_ n1_ n2_ n3_ n4_))
           have hye := Kd.at_int (Kd.C_below HR1.out HB.out) ii g0 hi
           obtain ⟨ad2', e2', y2⟩ := hye
           obtain rfl := Option.some.inj e2'
           go_upto_region 18 with (go_at_call 24; (with_reducible refine (parquetryref12_Way.calls (rd e ii) bv eo _  HEO.out).mono ?_); rintro e_ wheo ⟨rfl, hb6⟩; have n0_ := Aside0.mk (blk_below BX.out hb6); have n1_ := Aside0.mk (Kd.R_below HT.out hb6); have n2_ := Aside0.mk (below_step HB.out hb6); have n3_ := Aside0.mk (Kd.S_below HS.out hb6); have n4_ := pw_cell_below hb6 yl; clear hb6 BX HT HS HB yl; have BX := n0_; have HT := n1_; have HB := n2_; have HS := n3_; have yl := n4_; clear n0_ n1_ n2_ n3_ n4_; have z2 := (blk_cell BX.out 2).trans (show _ = some (.int .i64 0) from rfl); have f2 := blk_frozen BX.out 2)
           clear y2 e2'
           obtain ⟨W11, hW11⟩ : ∃ W11, wheo.setCell ⟨bx, 2, none⟩ (.int .i64 eo) = W11 := ⟨_, rfl⟩
           have n0_ := show W11.heap[bx]? = some (.cells #[.int .i64 (rd e ii), .int .i64 sw, .int .i64 eo, .slice A5 t.length c5] 28 (0, 0)) by rw [← hW11]; exact blk_put (cs := #[.int .i64 (rd e ii), .int .i64 sw, .int .i64 0, .slice A5 t.length c5]) BX.out 2 _ rfl
           have n1_ := Aside0.mk (show Kd.R (Kd.int .i64) 3 W11 w1.heap.size (fun k => k ≠ bx) (.slice A5 t.length c5) t by rw [← hW11]; exact Kd.R_far (p := ⟨bx, 2, none⟩) HT.out (fun _ hk => hk) _)
           have n2_ := Aside0.mk (show Below w1.heap.size w1 W11 by rw [← hW11]; exact HB.out.setCell (p := ⟨bx, 2, none⟩) GX.out _)
           have n3_ := Aside0.mk (show Kd.S k28 28 W11 w1.heap.size (fun k => k ≠ bx ∧ some k ≠ (Value.slice A5 t.length c5).ownBlock) (.slice A out.length c) out by rw [← hW11]; exact Kd.S_far (p := ⟨bx, 2, none⟩) HS.out (fun _ hk => hk.1) _)
           have x0 := (blk_cell n0_ 0).trans (show _ = some (.int .i64 (rd e ii)) from rfl)
           have x1 := (blk_cell n0_ 1).trans (show _ = some (.int .i64 sw) from rfl)
           have x2 := (blk_cell n0_ 2).trans (show _ = some (.int .i64 eo) from rfl)
           have x3 := (blk_cell n0_ 3).trans (show _ = some (.slice A5 t.length c5) from rfl)
           try rw [hW11]
           clear hW11 BX HT HS HB n0_ yl z2 f2
           go_wp2_with ((with_reducible refine gate_builtin (b := .append) (xs := #[.tmp 97, .tmp 99]) rfl ?_); at_builtin; refine Kd.S_append k28 (w0 := w1) w1.heap.size rfl (.tmp 97) (.tmp 99) 24 28 (.agg #[(.int .i64 0), (.int .i64 0), (.int .i64 0), (.slice none 0 0)]) 48 rfl Try.underlying24 info28 rfl (by decide) (by omega) (.slice A out.length c) out (⟨rd e ii, sw, eo, t⟩ : S28) [.int .i64 (rd e ii), .int .i64 sw, .int .i64 eo, .slice A5 t.length c5] (fun _ => True) (fun k => some k = (Value.slice A5 t.length c5).ownBlock) (by first | rfl | (go_simp; done)) (by first | rfl | (go_simp; done) | (go_simp; rfl)) (k28_mkM _ _ _ (⟨rd e ii, sw, eo, t⟩ : S28) (Kd.R_tight rfl n1_.out)) (fun k hk => ⟨trivial, Kd.S_away n3_.out (fun j hj e_ => hj.2 (e_ ▸ hk))⟩) (fun _ _ => trivial) (Kd.S_mono n3_.out (fun k hk => ⟨trivial, hk.2⟩)) n2_.out n2_.out.size (by omega) ?_; intro v_ w12 ho hb12 hg12 hat; obtain ⟨gg, cap, rfl, _⟩ := Kd.S_form ho (by simp); have m0_ := Aside0.mk ho; have m1_ := Aside0.mk hb12; clear ho hb12 hg12 hat n1_ n2_ n3_)
           go_roundg k1
           case measure => exact Nat.lt_succ_self _
           case rel => exact ⟨ii + 1, _, _, _, rfl, by rw [List.length_append]; rfl, HH, m0_, m1_⟩

end


/-! ### parquetryref02_Same: function 11 -/
def parquetryref02_Same.l0 : Nat → List Int → List Int → Int → Option (Bool)
 | 0, _, _, _ => none
 | k + 1, x0, x1, x5 => if x5 < (x0.length : Int) then (if 0 ≤ x5 then (if x5 < (x1.length : Int) then (if (rd x0 x5) = (rd x1 x5) then (parquetryref02_Same.l0 k x0 x1 (wrap64 (x5 + 1))) else (some false)) else (none)) else (none)) else (some true)
def parquetryref02_Same.f (k : Nat) (l0 : List Int) (l1 : List Int) : Option (Bool) := if (l0.length : Int) = (l1.length : Int) then (parquetryref02_Same.l0 k l0 l1 0) else (some false)
theorem parquetryref02_Same.mono_l : ∀ k, (∀ y0 y1 y2, LeO (parquetryref02_Same.l0 k y0 y1 y2) (parquetryref02_Same.l0 (k + 1) y0 y1 y2))
 | 0 => fun _ _ _ r h => by simp [parquetryref02_Same.l0] at h
 | k + 1 => by
  have ih0 := parquetryref02_Same.mono_l k
  ·
   intro y0 y1 y2
   unfold parquetryref02_Same.l0
   repeat' first
   | (with_reducible exact ih0 _ _ _)
   | (with_reducible exact LeO.refl _)
   | (with_reducible exact LeO.none _)
   | (with_reducible refine LeO.ite ?_ ?_)
   | (with_reducible refine LeO.bind ?_ (fun _ => ?_))
   | exact ih0 _ _ _
   | exact LeO.none _
   | refine LeO.ite ?_ ?_
   | refine LeO.bind ?_ (fun _ => ?_)
theorem parquetryref02_Same.mono : ∀ a0 a1 k, LeO (parquetryref02_Same.f k a0 a1) (parquetryref02_Same.f (k + 1) a0 a1) := by
 intro a0 a1 k
 have ih0 := parquetryref02_Same.mono_l k
 unfold parquetryref02_Same.f
 repeat' first
   | (with_reducible exact ih0 _ _ _)
   | (with_reducible exact LeO.refl _)
   | (with_reducible exact LeO.none _)
   | (with_reducible refine LeO.ite ?_ ?_)
   | (with_reducible refine LeO.bind ?_ (fun _ => ?_))
   | exact ih0 _ _ _
   | exact LeO.none _
   | refine LeO.ite ?_ ?_
   | refine LeO.bind ?_ (fun _ => ?_)
set_option maxHeartbeats 8000000 in
set_option maxRecDepth 100000 in
theorem parquetryref02_Same.calls (k : Nat) (A0 : Option Addr) (c0 : Nat) (l0 : List Int) (A1 : Option Addr) (c1 : Nat) (l1 : List Int) (r : Bool) (w : World) (hr0 : Kd.C (Kd.int .i64) w A0 l0.length l0) (hc0 : l0.length ≤ c0) (hr1 : Kd.C (Kd.int .i64) w A1 l1.length l1) (hc1 : l1.length ≤ c1) (h : parquetryref02_Same.f k l0 l1 = some r) :
  Calls Try.prog 11 #[.slice A0 l0.length c0, .slice A1 l1.length c1] w fun e w' => e = .returned (.bool r) ∧ Drawn0 w w' := by
 have HR0 := Aside0.mk hr0
 have HC0 := Aside0.mk hc0
 clear hr0 hc0
 have HR1 := Aside0.mk hr1
 have HC1 := Aside0.mk hc1
 clear hr1 hc1
 have H : (if (l0.length : Int) = (l1.length : Int) then (parquetryref02_Same.l0 k l0 l1 0) else (some false)) = some r := h
 clear h
 by_cases c3 : (l0.length : Int) = (l1.length : Int)
 ·
  rw [if_pos c3] at H
  have c3b0 : ((l0.length : Int) == (l1.length : Int)) = true := beq_iff_eq.mpr c3
  have c3b1 : ((l0.length : Int) != (l1.length : Int)) = false := bne_eq_false_iff_eq.mpr c3
  have c3b2 : (l0.length == l1.length) = true := by first | simpa using c3 | (simp at c3 ⊢; omega)
  clear c3
  have H' := Aside0.mk H
  clear H
  go_enter Try.func11, Try.ntmps11
  go_wp2
  repeat (go_quiet (fail); try go_wp2)
  go_loopg [5] k (fun kq v5 w' => ∃ (x5_1 : Int), v5 = .int .i64 x5_1 ∧ Aside0 (parquetryref02_Same.l0 kq l0 l1 x5_1 = some r) ∧ Aside0 (kq ≤ k) ∧ Drawn0 w w')
  case atStart => exact ⟨(0), (by first | rfl | (simp; done) | (simp [*]; done)), H', ⟨Nat.le_refl _⟩, by repeat (first | exact Drawn0.refl _ | apply Drawn0.step)⟩
  case round =>
   clear H'
   try clear c1
   try clear p2
   try clear c3
   try clear c3b0
   try clear c3b1
   try clear c3b2
   obtain ⟨x5_1, rfl, HA, HK1, ⟨m1, rfl⟩⟩ := hrel
   cases gk with
   | zero => exact absurd HA.out (by simp [parquetryref02_Same.l0])
   | succ k1 =>
    have H := HA.out
    clear HA
    simp only [parquetryref02_Same.l0] at H
    by_cases c4 : x5_1 < (l0.length : Int)
    ·
     rw [if_pos c4] at H
     have c4b0 : decide (x5_1 < (l0.length : Int)) = true := decide_eq_true c4
     clear c4
     by_cases c5 : 0 ≤ x5_1
     ·
      rw [if_pos c5] at H
      have c5b0 : decide (0 ≤ x5_1) = true := decide_eq_true c5
      clear c5
      by_cases c6 : x5_1 < (l1.length : Int)
      ·
       rw [if_pos c6] at H
       have c6b0 : decide (x5_1 < (l1.length : Int)) = true := decide_eq_true c6
       clear c6
       by_cases c7 : (rd l0 x5_1) = (rd l1 x5_1)
       ·
        rw [if_pos c7] at H
        have c7b0 : ((rd l0 x5_1) == (rd l1 x5_1)) = true := beq_iff_eq.mpr c7
        have c7b1 : ((rd l0 x5_1) != (rd l1 x5_1)) = false := bne_eq_false_iff_eq.mpr c7
        clear c7
        have H' := Aside0.mk H
        clear H
        have p357 : 0 ≤ (x5_1 : Int) := of_decide_eq_true (by first | (with_reducible assumption) | assumption)
        have q357 : x5_1 < (l0.length : Int) := of_decide_eq_true (by first | (with_reducible assumption) | assumption)
        obtain ⟨ad357, e357, hx357_0⟩ := Kd.at_int HR0.out x5_1 p357 q357
        cases e357
        replace p357 := eq_true p357
        replace q357 := eq_true q357
        have p358 : 0 ≤ (x5_1 : Int) := of_decide_eq_true (by first | (with_reducible assumption) | assumption)
        have q358 : x5_1 < (l1.length : Int) := of_decide_eq_true (by first | (with_reducible assumption) | assumption)
        obtain ⟨ad358, e358, hx358_0⟩ := Kd.at_int HR1.out x5_1 p358 q358
        cases e358
        replace p358 := eq_true p358
        replace q358 := eq_true q358
        go_wp2
        repeat (go_quiet (fail); try go_wp2)
        go_roundg k1
        case measure => have := HK1.out; omega
        case rel => exact ⟨(wrap64 (x5_1 + 1)), (by first | rfl | (simp; done) | (simp [*]; done)), H', ⟨by have := HK1.out; omega⟩, by repeat (first | exact Drawn0.refl _ | apply Drawn0.step)⟩
       ·
        rw [if_neg c7] at H
        have c7b0 : ((rd l0 x5_1) == (rd l1 x5_1)) = false := beq_eq_false_iff_ne.mpr c7
        have c7b1 : ((rd l0 x5_1) != (rd l1 x5_1)) = true := bne_iff_ne.mpr c7
        obtain rfl := Option.some.inj H
        have p357 : 0 ≤ (x5_1 : Int) := of_decide_eq_true (by first | (with_reducible assumption) | assumption)
        have q357 : x5_1 < (l0.length : Int) := of_decide_eq_true (by first | (with_reducible assumption) | assumption)
        obtain ⟨ad357, e357, hx357_0⟩ := Kd.at_int HR0.out x5_1 p357 q357
        cases e357
        replace p357 := eq_true p357
        replace q357 := eq_true q357
        have p358 : 0 ≤ (x5_1 : Int) := of_decide_eq_true (by first | (with_reducible assumption) | assumption)
        have q358 : x5_1 < (l1.length : Int) := of_decide_eq_true (by first | (with_reducible assumption) | assumption)
        obtain ⟨ad358, e358, hx358_0⟩ := Kd.at_int HR1.out x5_1 p358 q358
        cases e358
        replace p358 := eq_true p358
        replace q358 := eq_true q358
        go_wp2
        repeat (go_quiet (fail); try go_wp2)
        go_ret
        exact ⟨by first | rfl | (simp; done) | (simp [*]; done), by repeat (first | exact Drawn0.refl _ | apply Drawn0.step)⟩
      ·
       rw [if_neg c6] at H
       exact absurd H (by simp)
     ·
      rw [if_neg c5] at H
      exact absurd H (by simp)
    ·
     rw [if_neg c4] at H
     have c4b0 : decide (x5_1 < (l0.length : Int)) = false := decide_eq_false c4
     clear c4
     obtain rfl := Option.some.inj H
     go_wp2
     repeat (go_quiet (fail); try go_wp2)
     go_ret
     exact ⟨by first | rfl | (simp; done) | (simp [*]; done), by repeat (first | exact Drawn0.refl _ | apply Drawn0.step)⟩
 ·
  rw [if_neg c3] at H
  have c3b0 : ((l0.length : Int) == (l1.length : Int)) = false := beq_eq_false_iff_ne.mpr c3
  have c3b1 : ((l0.length : Int) != (l1.length : Int)) = true := bne_iff_ne.mpr c3
  have c3b2 : (l0.length == l1.length) = false := by first | simpa using c3 | (simp at c3 ⊢; omega)
  obtain rfl := Option.some.inj H
  go_enter Try.func11, Try.ntmps11
  go_wp2
  repeat (go_quiet (fail); try go_wp2)
  go_ret
  exact ⟨by first | rfl | (simp; done) | (simp [*]; done), by repeat (first | exact Drawn0.refl _ | apply Drawn0.step)⟩

end Go.Proofs.Ytdieknpikdepgaa.PC12
