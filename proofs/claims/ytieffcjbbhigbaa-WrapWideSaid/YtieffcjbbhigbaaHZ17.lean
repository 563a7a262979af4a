/- Chapter 17: its examples are so. Conditions: none. -/
import Derived.Test.YtieffcjbbhigbaaPC17x10
import Derived.Test.YtieffcjbbhigbaaHEv
import Derived.Lib.Strings
namespace Go.Proofs.Ytieffcjbbhigbaa.Pure
open Go.RowKit Go.Proofs.Ytieffcjbbhigbaa.PC17 Go.Proofs.YtieffcjbbhigbaaW.PrintWords Go.Proofs.YtieffcjbbhigbaaW.PrintLast Go.Proofs.YtieffcjbbhigbaaW.PrintMore Go.Proofs.YtieffcjbbhigbaaH
set_option linter.unusedVariables false
set_option linter.unusedSimpArgs false
mutual
def z2_parquetryref01_first_j0 : Nat → ByteArray → Int → Int → Option (Int × Int)
 | 0, _, _, _ => none
 | k + 1, x0, x4, x5 => z2_parquetryref01_first_l0 k x0 x4 x5 1
def z2_parquetryref01_first_j2 : Nat → ByteArray → Int → Int → Option (Int × Int)
 | 0, _, _, _ => none
 | k + 1, x0, x4, x5 => if x5 ≤ (x0.size : Int) then ((parquetryref01_Code.f x4).bind fun t185 => (if t185 = true then ((parquetryref01_Bytes.f k x4).bind fun t186 => (if 0 ≤ x5 then (if (strOfNums t186).data.toList = (x0.extract 0 (x5 : Int).toNat).data.toList then (some (x4, x5)) else (some (65533, 1))) else (none))) else (some (65533, 1)))) else (some (65533, 1))
def z2_parquetryref01_first_l0 : Nat → ByteArray → Int → Int → Int → Option (Int × Int)
 | 0, _, _, _, _ => none
 | k + 1, x0, x4, x5, x6 => if x6 < x5 then (if x6 < (x0.size : Int) then (if 0 ≤ x6 then (z2_parquetryref01_first_l0 k x0 (wrap64 ((wrap64 (64 * x4)) + (Int.tmod (wrap64 (bt x0 x6)) 64))) x5 (wrap64 (x6 + 1))) else (none)) else (z2_parquetryref01_first_j2 k x0 x4 x5)) else (z2_parquetryref01_first_j2 k x0 x4 x5)
end
theorem z2_parquetryref01_first_eq : ∀ k, (∀ y0 y1 y2, parquetryref01_first.j0 k y0 y1 y2 = z2_parquetryref01_first_j0 k y0 y1 y2) ∧ (∀ y0 y1 y2, parquetryref01_first.j2 k y0 y1 y2 = z2_parquetryref01_first_j2 k y0 y1 y2) ∧ (∀ y0 y1 y2 y3, parquetryref01_first.l0 k y0 y1 y2 y3 = z2_parquetryref01_first_l0 k y0 y1 y2 y3)
  | 0 => ⟨fun _ _ _ => rfl, fun _ _ _ => rfl, fun _ _ _ _ => rfl⟩
  | k + 1 => by
    obtain ⟨i0, i1, i2⟩ := z2_parquetryref01_first_eq k
    refine ⟨?_, ?_, ?_⟩
    · intro y0 y1 y2
      simp only [parquetryref01_first.j0, z2_parquetryref01_first_j0, i0, i1, i2, Lib.toList_data]
    · intro y0 y1 y2
      simp only [parquetryref01_first.j2, z2_parquetryref01_first_j2, i0, i1, i2, Lib.toList_data]
    · intro y0 y1 y2 y3
      simp only [parquetryref01_first.l0, z2_parquetryref01_first_l0, i0, i1, i2, Lib.toList_data]
def z2_parquetryref01_first_f (k : Nat) (a0 : ByteArray) : Option (Int × Int) := if 0 < (a0.size : Int) then (if (wrap64 (bt a0 0)) ≥ 240 then (z2_parquetryref01_first_j0 k a0 (wrap64 ((wrap64 (bt a0 0)) - 240)) 4) else (if (wrap64 (bt a0 0)) ≥ 224 then (z2_parquetryref01_first_j0 k a0 (wrap64 ((wrap64 (bt a0 0)) - 224)) 3) else (if (wrap64 (bt a0 0)) ≥ 192 then (z2_parquetryref01_first_j0 k a0 (wrap64 ((wrap64 (bt a0 0)) - 192)) 2) else (z2_parquetryref01_first_j0 k a0 (wrap64 (bt a0 0)) 1)))) else (none)
theorem z2_parquetryref01_first_f_eq (k : Nat) (a0 : ByteArray) : parquetryref01_first.f k a0 = z2_parquetryref01_first_f k a0 := by
  unfold parquetryref01_first.f z2_parquetryref01_first_f
  simp only [(z2_parquetryref01_first_eq k).1, (z2_parquetryref01_first_eq k).2.1, (z2_parquetryref01_first_eq k).2.2]
def z2_parquetryref01_Split_l0 : Nat → ByteArray → List (S89) → Int → Option ((List (S89)))
 | 0, _, _, _ => none
 | k + 1, x0, x3, x4 => if x4 < (x0.size : Int) then (if 0 ≤ x4 then (if x4 ≤ (x0.size : Int) then ((z2_parquetryref01_first_f k (x0.extract (x4 : Int).toNat x0.size)).bind fun bt189 => (if x3.length < 5864062014805 then (z2_parquetryref01_Split_l0 k x0 (x3 ++ [(⟨x4, bt189.2, bt189.1⟩ : S89)]) (wrap64 (x4 + bt189.2))) else (none))) else (none)) else (none)) else (some x3)
theorem z2_parquetryref01_Split_eq : ∀ k, (∀ y0 y1 y2, parquetryref01_Split.l0 k y0 y1 y2 = z2_parquetryref01_Split_l0 k y0 y1 y2)
  | 0 => fun _ _ _ => rfl
  | k + 1 => by
    have i0 := z2_parquetryref01_Split_eq k
    intro y0 y1 y2
    simp only [parquetryref01_Split.l0, z2_parquetryref01_Split_l0, i0, Lib.toList_data, z2_parquetryref01_first_f_eq]
def z2_parquetryref01_Split_f (k : Nat) (a0 : ByteArray) : Option ((List (S89))) := z2_parquetryref01_Split_l0 k a0 ([] : List (S89)) 0
theorem z2_parquetryref01_Split_f_eq (k : Nat) (a0 : ByteArray) : parquetryref01_Split.f k a0 = z2_parquetryref01_Split_f k a0 := by
  unfold parquetryref01_Split.f z2_parquetryref01_Split_f
  simp only [(z2_parquetryref01_Split_eq k), z2_parquetryref01_first_f_eq]
def z2_parquetryref06_Split_f (k : Nat) (a0 : ByteArray) : Option ((List (S39))) := (z2_parquetryref01_Split_f k a0).bind fun t194 => ((parquetryref06_Of.f k t194).bind fun t197 => (some t197))
theorem z2_parquetryref06_Split_f_eq (k : Nat) (a0 : ByteArray) : parquetryref06_Split.f k a0 = z2_parquetryref06_Split_f k a0 := by
  unfold parquetryref06_Split.f z2_parquetryref06_Split_f
  simp only [z2_parquetryref01_first_f_eq, z2_parquetryref01_Split_f_eq]
mutual
def z2_parquetrylaw17_shows_l0 : Nat → ByteArray → List ByteArray → List (S39) → List (S29) → Int → Option (Bool)
 | 0, _, _, _, _, _ => none
 | k + 1, x0, x1, x5, x6, x7 => if x7 < (x6.length : Int) then (if 0 ≤ x7 then (if ((rd_T29 x6 x7).f0) < 0 then (z2_parquetrylaw17_shows_j1 k x0 x1 x5 x6 x7 true) else (if ((rd_T29 x6 x7).f2) < ((rd_T29 x6 x7).f0) then (z2_parquetrylaw17_shows_j1 k x0 x1 x5 x6 x7 true) else (z2_parquetrylaw17_shows_j1 k x0 x1 x5 x6 x7 (decide (((rd_T29 x6 x7).f2) > (x5.length : Int)))))) else (none)) else (some true)
def z2_parquetrylaw17_shows_j1 : Nat → ByteArray → List ByteArray → List (S39) → List (S29) → Int → Bool → Option (Bool)
 | 0, _, _, _, _, _, _ => none
 | k + 1, x0, x1, x5, x6, x7, x53 => if x53 = true then (none) else (if 0 ≤ x7 then (if x7 < (x6.length : Int) then (z2_parquetrylaw17_shows_l1 k x0 x1 x5 x6 x7 (⟨#[]⟩ : ByteArray) ((rd_T29 x6 x7).f0)) else (none)) else (none))
def z2_parquetrylaw17_shows_l1 : Nat → ByteArray → List ByteArray → List (S39) → List (S29) → Int → ByteArray → Int → Option (Bool)
 | 0, _, _, _, _, _, _, _ => none
 | k + 1, x0, x1, x5, x6, x7, x8, x9 => if 0 ≤ x7 then (if x7 < (x6.length : Int) then (if x9 < ((rd_T29 x6 x7).f2) then (if 0 ≤ x9 then (if x9 < (x5.length : Int) then (if 0 ≤ ((rd_T39 x5 x9).f0) then (if ((rd_T39 x5 x9).f0) ≤ (wrap64 (((rd_T39 x5 x9).f0) + ((rd_T39 x5 x9).f1))) then (if (wrap64 (((rd_T39 x5 x9).f0) + ((rd_T39 x5 x9).f1))) ≤ (x0.size : Int) then (if x8.size + (x0.extract (((rd_T39 x5 x9).f0) : Int).toNat ((wrap64 (((rd_T39 x5 x9).f0) + ((rd_T39 x5 x9).f1))) : Int).toNat).size ≤ 9223372036854775807 then (z2_parquetrylaw17_shows_l1 k x0 x1 x5 x6 x7 (x8 ++ (x0.extract (((rd_T39 x5 x9).f0) : Int).toNat ((wrap64 (((rd_T39 x5 x9).f0) + ((rd_T39 x5 x9).f1))) : Int).toNat)) (wrap64 (x9 + 1))) else (none)) else (none)) else (none)) else (none)) else (none)) else (none)) else (if x7 < (x1.length : Int) then (if x8.data.toList = (rdOf ByteArray.empty x1 x7).data.toList then (if ((((rd_T29 x6 x7).f3) == 1) != ((wrap64 (x7 + 1)) == (x6.length : Int))) = true then (none) else (if ((rd_T29 x6 x7).f4) = 0 then (z2_parquetrylaw17_shows_l0 k x0 x1 x5 x6 (wrap64 (x7 + 1))) else (none))) else (none)) else (none))) else (none)) else (none)
end
theorem z2_parquetrylaw17_shows_eq : ∀ k, (∀ y0 y1 y2 y3 y4, parquetrylaw17_shows.l0 k y0 y1 y2 y3 y4 = z2_parquetrylaw17_shows_l0 k y0 y1 y2 y3 y4) ∧ (∀ y0 y1 y2 y3 y4 y5, parquetrylaw17_shows.j1 k y0 y1 y2 y3 y4 y5 = z2_parquetrylaw17_shows_j1 k y0 y1 y2 y3 y4 y5) ∧ (∀ y0 y1 y2 y3 y4 y5 y6, parquetrylaw17_shows.l1 k y0 y1 y2 y3 y4 y5 y6 = z2_parquetrylaw17_shows_l1 k y0 y1 y2 y3 y4 y5 y6)
  | 0 => ⟨fun _ _ _ _ _ => rfl, fun _ _ _ _ _ _ => rfl, fun _ _ _ _ _ _ _ => rfl⟩
  | k + 1 => by
    obtain ⟨i0, i1, i2⟩ := z2_parquetrylaw17_shows_eq k
    refine ⟨?_, ?_, ?_⟩
    · intro y0 y1 y2 y3 y4
      simp only [parquetrylaw17_shows.l0, z2_parquetrylaw17_shows_l0, i0, i1, i2, Lib.toList_data, z2_parquetryref01_first_f_eq, z2_parquetryref01_Split_f_eq, z2_parquetryref06_Split_f_eq]
    · intro y0 y1 y2 y3 y4 y5
      simp only [parquetrylaw17_shows.j1, z2_parquetrylaw17_shows_j1, i0, i1, i2, Lib.toList_data, z2_parquetryref01_first_f_eq, z2_parquetryref01_Split_f_eq, z2_parquetryref06_Split_f_eq]
    · intro y0 y1 y2 y3 y4 y5 y6
      simp only [parquetrylaw17_shows.l1, z2_parquetrylaw17_shows_l1, i0, i1, i2, Lib.toList_data, z2_parquetryref01_first_f_eq, z2_parquetryref01_Split_f_eq, z2_parquetryref06_Split_f_eq]
def z2_parquetrylaw17_shows_f (k : Nat) (a0 : ByteArray) (l1 : List ByteArray) : Option (Bool) := (z2_parquetryref06_Split_f k a0).bind fun t200 => ((wrap_Lines.f k t200 5 1).bind fun t203 => (if (t203.length : Int) = (l1.length : Int) then (z2_parquetrylaw17_shows_l0 k a0 l1 t200 t203 0) else (none)))
theorem z2_parquetrylaw17_shows_f_eq (k : Nat) (a0 : ByteArray) (l1 : List ByteArray) : parquetrylaw17_shows.f k a0 l1 = z2_parquetrylaw17_shows_f k a0 l1 := by
  unfold parquetrylaw17_shows.f z2_parquetrylaw17_shows_f
  simp only [(z2_parquetrylaw17_shows_eq k).1, (z2_parquetrylaw17_shows_eq k).2.1, (z2_parquetrylaw17_shows_eq k).2.2, z2_parquetryref01_first_f_eq, z2_parquetryref01_Split_f_eq, z2_parquetryref06_Split_f_eq]
def z2_parquetrylaw17_awake_f (k : Nat)  : Option (Bool) := (z2_parquetrylaw17_shows_f k (⟨#[97, 98, 32, 99, 100]⟩ : ByteArray) (([(⟨#[97, 98, 32, 99, 100]⟩ : ByteArray)] : List ByteArray))).bind fun t221 => (if t221 = true then ((z2_parquetrylaw17_shows_f k (⟨#[97, 98, 32, 99, 100, 101, 32, 102]⟩ : ByteArray) (([(⟨#[97, 98]⟩ : ByteArray), (⟨#[99, 100, 101, 32, 102]⟩ : ByteArray)] : List ByteArray))).bind fun t225 => (if t225 = true then ((z2_parquetrylaw17_shows_f k (⟨#[97, 98, 99, 100, 101, 102, 103, 32, 104]⟩ : ByteArray) (([(⟨#[97, 98, 99, 100, 101]⟩ : ByteArray), (⟨#[102, 103, 32, 104]⟩ : ByteArray)] : List ByteArray))).bind fun t229 => (if t229 = true then ((z2_parquetrylaw17_shows_f k (⟨#[97, 98, 99, 100, 101, 32, 32, 32, 102]⟩ : ByteArray) (([(⟨#[97, 98, 99, 100, 101]⟩ : ByteArray), (⟨#[102]⟩ : ByteArray)] : List ByteArray))).bind fun t233 => (if t233 = true then ((z2_parquetrylaw17_shows_f k (⟨#[97, 98, 99, 100, 101, 32, 32, 32]⟩ : ByteArray) (([(⟨#[97, 98, 99, 100, 101]⟩ : ByteArray)] : List ByteArray))).bind fun t237 => (if t237 = true then ((z2_parquetrylaw17_shows_f k (⟨#[32, 32, 97, 98, 99, 100]⟩ : ByteArray) (([(⟨#[32, 32, 97, 98, 99]⟩ : ByteArray), (⟨#[100]⟩ : ByteArray)] : List ByteArray))).bind fun t241 => (if t241 = true then ((z2_parquetrylaw17_shows_f k (⟨#[]⟩ : ByteArray) (([(⟨#[]⟩ : ByteArray)] : List ByteArray))).bind fun t245 => (if t245 = true then ((z2_parquetrylaw17_shows_f k (⟨#[10]⟩ : ByteArray) (([(⟨#[]⟩ : ByteArray)] : List ByteArray))).bind fun t249 => (some t249)) else (none))) else (none))) else (none))) else (none))) else (none))) else (none))) else (none))
theorem z2_parquetrylaw17_awake_f_eq (k : Nat)  : parquetrylaw17_awake.f k = z2_parquetrylaw17_awake_f k := by
  unfold parquetrylaw17_awake.f z2_parquetrylaw17_awake_f
  simp only [z2_parquetryref01_first_f_eq, z2_parquetryref01_Split_f_eq, z2_parquetryref06_Split_f_eq, z2_parquetrylaw17_shows_f_eq]
set_option maxRecDepth 100000 in
theorem awake_ev : Ev (fun k => parquetrylaw17_awake.f k) true := Ev.of (fun k => parquetrylaw17_awake.mono k) (k := 1500) ((z2_parquetrylaw17_awake_f_eq 1500).trans (by decide +kernel))
end Go.Proofs.Ytieffcjbbhigbaa.Pure
