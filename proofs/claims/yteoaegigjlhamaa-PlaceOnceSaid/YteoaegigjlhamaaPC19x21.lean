/- For the laws of the group C19: the Lean functions that the Go functions compute, and proofs that they do. Written by wip/hprint.py of this repo over the kit's printer; nothing here is trusted: Lean checks it. -/
import Derived.Test.YteoaegigjlhamaaPC19x0
import Derived.Test.YteoaegigjlhamaaPC19x6
import Derived.Test.YteoaegigjlhamaaPC19x15
import Derived.Test.YteoaegigjlhamaaPC19x17
namespace Go.Proofs.Yteoaegigjlhamaa.PC19
open Go.RowKit Go.Proofs.YteoaegigjlhamaaW.PrintWords Go.Proofs.YteoaegigjlhamaaW.PrintLast Go.Proofs.YteoaegigjlhamaaW.PrintMore
attribute [local go_sem] max2_int min2_int max_two min_two max_three min_three max_four min_four
set_option linter.unusedVariables false
set_option linter.unusedSimpArgs false
/-! ### parquetrylaw19_PlaceOnce:function 4:by hand -/
mutual
def parquetrylaw19_PlaceOnce.l0:Nat→List (S36)→List Int→Int→Int→Int→Int→Int→Int→Int→Int→Int→Option (Bool)
 | 0,_,_,_,_,_,_,_,_,_,_,_=>none
 | k+1,x0,x1,x3,x4,x5,x13,x253000,x253001,x253002,x253003,x253004=>if x13 < (x0.length:Int) then (if 0≤x13 then (if 0≤(wrap64 (x13 - 1)) then (if (wrap64 (x13 - 1)) < (x0.length:Int) then (if ((rd_T36 x0 x13).f0)≤((rd_T36 x0 (wrap64 (x13 - 1))).f0) then ((parquetrylaw19_awake.f k).bind fun t256=>(some t256)) else (parquetrylaw19_PlaceOnce.l0 k x0 x1 x3 x4 x5 (wrap64 (x13+1)) x253000 x253001 x253002 x253003 x253004)) else (none)) else (none)) else (none)) else ((place_Slots.f k x0 x1 x253000 x253001 x253002 x253003 x253004 x3 x4 x5).bind fun bt257=>(if bt257.2=0 then ((cluster_Of.f x0).bind fun t262=>(if (bt257.1.length:Int)=x4 then (parquetrylaw19_PlaceOnce.j1 k x4 bt257.1 t262 (decide (x253001 > (t262.length:Int))) x253000 x253001 x253002 x253003 x253004) else (parquetrylaw19_PlaceOnce.j1 k x4 bt257.1 t262 true x253000 x253001 x253002 x253003 x253004))) else (if (bt257.1.length:Int)=0 then ((parquetrylaw19_awake.f k).bind fun t261=>(some t261)) else (none))))
def parquetrylaw19_PlaceOnce.j1:Nat→Int→List (S42)→List (S40)→Bool→Int→Int→Int→Int→Int→Option (Bool)
 | 0,_,_,_,_,_,_,_,_,_=>none
 | k+1,x4,x14,x16,x79,x253000,x253001,x253002,x253003,x253004=>if x79=true then (none) else (if x253004=1 then (parquetrylaw19_PlaceOnce.j2 k x14 x16 (wrap64 (x4 - 1)) x253000 x253001 x253002 x253003 x253004) else (parquetrylaw19_PlaceOnce.j2 k x14 x16 x4 x253000 x253001 x253002 x253003 x253004))
def parquetrylaw19_PlaceOnce.j2:Nat→List (S42)→List (S40)→Int→Int→Int→Int→Int→Int→Option (Bool)
 | 0,_,_,_,_,_,_,_,_=>none
 | k+1,x14,x16,x17,x253000,x253001,x253002,x253003,x253004=>parquetrylaw19_PlaceOnce.l1 k x14 x16 x17 x253000 x253000 x253001 x253002 x253003 x253004
def parquetrylaw19_PlaceOnce.l1:Nat→List (S42)→List (S40)→Int→Int→Int→Int→Int→Int→Int→Option (Bool)
 | 0,_,_,_,_,_,_,_,_,_=>none
 | k+1,x14,x16,x17,x18,x253000,x253001,x253002,x253003,x253004=>if x18 < x253002 then (if 0≤x18 then (if x18 < (x16.length:Int) then (parquetrylaw19_PlaceOnce.l1 k x14 x16 (wrap64 (x17 - ((rd_T40 x16 x18).f4))) (wrap64 (x18+1)) x253000 x253001 x253002 x253003 x253004) else (none)) else (none)) else (if x17 < 0 then ((parquetrylaw19_awake.f k).bind fun t266=>(some t266)) else (parquetrylaw19_PlaceOnce.l2 k x14 x16 0 0 0 x253000 x253001 x253002 x253003 x253004))
def parquetrylaw19_PlaceOnce.l2:Nat→List (S42)→List (S40)→Int→Int→Int→Int→Int→Int→Int→Int→Option (Bool)
 | 0,_,_,_,_,_,_,_,_,_,_=>none
 | k+1,x14,x16,x19,x20,x21,x253000,x253001,x253002,x253003,x253004=>if x21 < (x14.length:Int) then (if 0≤x21 then (if ((rd_T42 x14 x21).f0)=4 then (parquetrylaw19_PlaceOnce.l2 k x14 x16 (wrap64 (x19+1)) x20 (wrap64 (x21+1)) x253000 x253001 x253002 x253003 x253004) else (if ((rd_T42 x14 x21).f0)=3 then (parquetrylaw19_PlaceOnce.l2 k x14 x16 x19 (wrap64 (x20+1)) (wrap64 (x21+1)) x253000 x253001 x253002 x253003 x253004) else (if ((rd_T42 x14 x21).f0)=2 then (parquetrylaw19_PlaceOnce.l2 k x14 x16 x19 x20 (wrap64 (x21+1)) x253000 x253001 x253002 x253003 x253004) else (none)))) else (none)) else (parquetrylaw19_PlaceOnce.l3 k x14 x16 x19 x20 x253000 x253000 x253001 x253002 x253003 x253004)
def parquetrylaw19_PlaceOnce.l3:Nat→List (S42)→List (S40)→Int→Int→Int→Int→Int→Int→Int→Int→Option (Bool)
 | 0,_,_,_,_,_,_,_,_,_,_=>none
 | k+1,x14,x16,x19,x20,x22,x253000,x253001,x253002,x253003,x253004=>if x22 < x253002 then (parquetrylaw19_PlaceOnce.l4 k x14 x16 x19 x20 x22 (-1) 0 x253000 x253001 x253002 x253003 x253004) else (if x19=0 then (if ((x20==1)==(x253004==1))=true then (if x20≤1 then ((parquetrylaw19_awake.f k).bind fun t268=>(some t268)) else (none)) else (none)) else (none))
def parquetrylaw19_PlaceOnce.l4:Nat→List (S42)→List (S40)→Int→Int→Int→Int→Int→Int→Int→Int→Int→Int→Option (Bool)
 | 0,_,_,_,_,_,_,_,_,_,_,_,_=>none
 | k+1,x14,x16,x19,x20,x22,x23,x24,x253000,x253001,x253002,x253003,x253004=>if x24 < (x14.length:Int) then (if 0≤x22 then (if x22 < (x16.length:Int) then (parquetrylaw19_PlaceOnce.j7 k x14 x16 x19 x20 x22 x23 x24 (decide (((rd_T40 x16 x22).f4) > 0)) x253000 x253001 x253002 x253003 x253004) else (none)) else (none)) else (parquetrylaw19_PlaceOnce.j7 k x14 x16 x19 x20 x22 x23 x24 false x253000 x253001 x253002 x253003 x253004)
def parquetrylaw19_PlaceOnce.j7:Nat→List (S42)→List (S40)→Int→Int→Int→Int→Int→Bool→Int→Int→Int→Int→Int→Option (Bool)
 | 0,_,_,_,_,_,_,_,_,_,_,_,_,_=>none
 | k+1,x14,x16,x19,x20,x22,x23,x24,x144,x253000,x253001,x253002,x253003,x253004=>if x144=true then (if 0≤x24 then (if x24 < (x14.length:Int) then (if ((rd_T42 x14 x24).f0)=4 then (if 0≤x22 then (if x22 < (x16.length:Int) then (if ((rd_T42 x14 x24).f3)=((rd_T40 x16 x22).f0) then (parquetrylaw19_PlaceOnce.j8 k x14 x16 x19 x20 x22 x23 x24 (((rd_T42 x14 x24).f4)==0) x253000 x253001 x253002 x253003 x253004) else (parquetrylaw19_PlaceOnce.j8 k x14 x16 x19 x20 x22 x23 x24 false x253000 x253001 x253002 x253003 x253004)) else (none)) else (none)) else (parquetrylaw19_PlaceOnce.j8 k x14 x16 x19 x20 x22 x23 x24 false x253000 x253001 x253002 x253003 x253004)) else (none)) else (none)) else (if 0≤x22 then (if x22 < (x16.length:Int) then (if ((rd_T40 x16 x22).f4) > 0 then (if x23 < 0 then (parquetrylaw19_PlaceOnce.j9 k x14 x16 x19 x20 x22 x23 true x253000 x253001 x253002 x253003 x253004) else (if x23≥0 then (parquetrylaw19_PlaceOnce.j9 k x14 x16 x19 x20 x22 x23 (decide ((wrap64 (x23+((rd_T40 x16 x22).f4))) > (x14.length:Int))) x253000 x253001 x253002 x253003 x253004) else (parquetrylaw19_PlaceOnce.j9 k x14 x16 x19 x20 x22 x23 false x253000 x253001 x253002 x253003 x253004))) else (if x23≥0 then (parquetrylaw19_PlaceOnce.j9 k x14 x16 x19 x20 x22 x23 (decide ((wrap64 (x23+((rd_T40 x16 x22).f4))) > (x14.length:Int))) x253000 x253001 x253002 x253003 x253004) else (parquetrylaw19_PlaceOnce.j9 k x14 x16 x19 x20 x22 x23 false x253000 x253001 x253002 x253003 x253004))) else (none)) else (none))
def parquetrylaw19_PlaceOnce.j8:Nat→List (S42)→List (S40)→Int→Int→Int→Int→Int→Bool→Int→Int→Int→Int→Int→Option (Bool)
 | 0,_,_,_,_,_,_,_,_,_,_,_,_,_=>none
 | k+1,x14,x16,x19,x20,x22,x23,x24,x173,x253000,x253001,x253002,x253003,x253004=>if x173=true then (if x23≥0 then (none) else (parquetrylaw19_PlaceOnce.l4 k x14 x16 x19 x20 x22 x24 (wrap64 (x24+1)) x253000 x253001 x253002 x253003 x253004)) else (parquetrylaw19_PlaceOnce.l4 k x14 x16 x19 x20 x22 x23 (wrap64 (x24+1)) x253000 x253001 x253002 x253003 x253004)
def parquetrylaw19_PlaceOnce.j9:Nat→List (S42)→List (S40)→Int→Int→Int→Int→Bool→Int→Int→Int→Int→Int→Option (Bool)
 | 0,_,_,_,_,_,_,_,_,_,_,_,_=>none
 | k+1,x14,x16,x19,x20,x22,x23,x202,x253000,x253001,x253002,x253003,x253004=>if x202=true then (none) else (parquetrylaw19_PlaceOnce.l5 k x14 x16 x19 x20 x22 x23 1 x253000 x253001 x253002 x253003 x253004)
def parquetrylaw19_PlaceOnce.l5:Nat→List (S42)→List (S40)→Int→Int→Int→Int→Int→Int→Int→Int→Int→Int→Option (Bool)
 | 0,_,_,_,_,_,_,_,_,_,_,_,_=>none
 | k+1,x14,x16,x19,x20,x22,x23,x25,x253000,x253001,x253002,x253003,x253004=>if 0≤x22 then (if x22 < (x16.length:Int) then (if x25 < ((rd_T40 x16 x22).f4) then (if 0≤(wrap64 (x23+x25)) then (if (wrap64 (x23+x25)) < (x14.length:Int) then (if ((rd_T42 x14 (wrap64 (x23+x25))).f0)=4 then (if ((rd_T42 x14 (wrap64 (x23+x25))).f3)=((rd_T40 x16 x22).f0) then (if ((rd_T42 x14 (wrap64 (x23+x25))).f4)=x25 then (if 0≤x23 then (if x23 < (x14.length:Int) then (if ((rd_T42 x14 (wrap64 (x23+x25))).f5)=((rd_T42 x14 x23).f5) then (parquetrylaw19_PlaceOnce.l5 k x14 x16 x19 x20 x22 x23 (wrap64 (x25+1)) x253000 x253001 x253002 x253003 x253004) else (none)) else (none)) else (none)) else (none)) else (none)) else (none)) else (none)) else (none)) else (parquetrylaw19_PlaceOnce.l3 k x14 x16 (wrap64 (x19 - ((rd_T40 x16 x22).f4))) x20 (wrap64 (x22+1)) x253000 x253001 x253002 x253003 x253004)) else (none)) else (none)
end
def parquetrylaw19_PlaceOnce.f (k:Nat) (l0:List (S36)) (l1:List Int) (a2_0:Int) (a2_1:Int) (a2_2:Int) (a2_3:Int) (a2_4:Int) (a3:Int) (a4:Int) (a5:Int):Option (Bool):=if (l0.length:Int) > 200 then ((parquetrylaw19_awake.f k).bind fun t253=>(some t253)) else (parquetrylaw19_PlaceOnce.l0 k l0 l1 a3 a4 a5 1 a2_0 a2_1 a2_2 a2_3 a2_4)
theorem parquetrylaw19_PlaceOnce.mono_l: ∀ k,(∀ y0 y1 y2 y3 y4 y5 y6 y7 y8 y9 y10,LeO (parquetrylaw19_PlaceOnce.l0 k y0 y1 y2 y3 y4 y5 y6 y7 y8 y9 y10) (parquetrylaw19_PlaceOnce.l0 (k+1) y0 y1 y2 y3 y4 y5 y6 y7 y8 y9 y10))∧(∀ y0 y1 y2 y3 y4 y5 y6 y7 y8,LeO (parquetrylaw19_PlaceOnce.j1 k y0 y1 y2 y3 y4 y5 y6 y7 y8) (parquetrylaw19_PlaceOnce.j1 (k+1) y0 y1 y2 y3 y4 y5 y6 y7 y8))∧(∀ y0 y1 y2 y3 y4 y5 y6 y7,LeO (parquetrylaw19_PlaceOnce.j2 k y0 y1 y2 y3 y4 y5 y6 y7) (parquetrylaw19_PlaceOnce.j2 (k+1) y0 y1 y2 y3 y4 y5 y6 y7))∧(∀ y0 y1 y2 y3 y4 y5 y6 y7 y8,LeO (parquetrylaw19_PlaceOnce.l1 k y0 y1 y2 y3 y4 y5 y6 y7 y8) (parquetrylaw19_PlaceOnce.l1 (k+1) y0 y1 y2 y3 y4 y5 y6 y7 y8))∧(∀ y0 y1 y2 y3 y4 y5 y6 y7 y8 y9,LeO (parquetrylaw19_PlaceOnce.l2 k y0 y1 y2 y3 y4 y5 y6 y7 y8 y9) (parquetrylaw19_PlaceOnce.l2 (k+1) y0 y1 y2 y3 y4 y5 y6 y7 y8 y9))∧(∀ y0 y1 y2 y3 y4 y5 y6 y7 y8 y9,LeO (parquetrylaw19_PlaceOnce.l3 k y0 y1 y2 y3 y4 y5 y6 y7 y8 y9) (parquetrylaw19_PlaceOnce.l3 (k+1) y0 y1 y2 y3 y4 y5 y6 y7 y8 y9))∧(∀ y0 y1 y2 y3 y4 y5 y6 y7 y8 y9 y10 y11,LeO (parquetrylaw19_PlaceOnce.l4 k y0 y1 y2 y3 y4 y5 y6 y7 y8 y9 y10 y11) (parquetrylaw19_PlaceOnce.l4 (k+1) y0 y1 y2 y3 y4 y5 y6 y7 y8 y9 y10 y11))∧(∀ y0 y1 y2 y3 y4 y5 y6 y7 y8 y9 y10 y11 y12,LeO (parquetrylaw19_PlaceOnce.j7 k y0 y1 y2 y3 y4 y5 y6 y7 y8 y9 y10 y11 y12) (parquetrylaw19_PlaceOnce.j7 (k+1) y0 y1 y2 y3 y4 y5 y6 y7 y8 y9 y10 y11 y12))∧(∀ y0 y1 y2 y3 y4 y5 y6 y7 y8 y9 y10 y11 y12,LeO (parquetrylaw19_PlaceOnce.j8 k y0 y1 y2 y3 y4 y5 y6 y7 y8 y9 y10 y11 y12) (parquetrylaw19_PlaceOnce.j8 (k+1) y0 y1 y2 y3 y4 y5 y6 y7 y8 y9 y10 y11 y12))∧(∀ y0 y1 y2 y3 y4 y5 y6 y7 y8 y9 y10 y11,LeO (parquetrylaw19_PlaceOnce.j9 k y0 y1 y2 y3 y4 y5 y6 y7 y8 y9 y10 y11) (parquetrylaw19_PlaceOnce.j9 (k+1) y0 y1 y2 y3 y4 y5 y6 y7 y8 y9 y10 y11))∧(∀ y0 y1 y2 y3 y4 y5 y6 y7 y8 y9 y10 y11,LeO (parquetrylaw19_PlaceOnce.l5 k y0 y1 y2 y3 y4 y5 y6 y7 y8 y9 y10 y11) (parquetrylaw19_PlaceOnce.l5 (k+1) y0 y1 y2 y3 y4 y5 y6 y7 y8 y9 y10 y11))
 | 0=>⟨fun _ _ _ _ _ _ _ _ _ _ _ r h=>by simp [parquetrylaw19_PlaceOnce.l0] at h,fun _ _ _ _ _ _ _ _ _ r h=>by simp [parquetrylaw19_PlaceOnce.j1] at h,fun _ _ _ _ _ _ _ _ r h=>by simp [parquetrylaw19_PlaceOnce.j2] at h,fun _ _ _ _ _ _ _ _ _ r h=>by simp [parquetrylaw19_PlaceOnce.l1] at h,fun _ _ _ _ _ _ _ _ _ _ r h=>by simp [parquetrylaw19_PlaceOnce.l2] at h,fun _ _ _ _ _ _ _ _ _ _ r h=>by simp [parquetrylaw19_PlaceOnce.l3] at h,fun _ _ _ _ _ _ _ _ _ _ _ _ r h=>by simp [parquetrylaw19_PlaceOnce.l4] at h,fun _ _ _ _ _ _ _ _ _ _ _ _ _ r h=>by simp [parquetrylaw19_PlaceOnce.j7] at h,fun _ _ _ _ _ _ _ _ _ _ _ _ _ r h=>by simp [parquetrylaw19_PlaceOnce.j8] at h,fun _ _ _ _ _ _ _ _ _ _ _ _ r h=>by simp [parquetrylaw19_PlaceOnce.j9] at h,fun _ _ _ _ _ _ _ _ _ _ _ _ r h=>by simp [parquetrylaw19_PlaceOnce.l5] at h⟩
 | k+1=>by
  obtain ⟨ih0,ih1,ih2,ih3,ih4,ih5,ih6,ih7,ih8,ih9,ih10⟩:=parquetrylaw19_PlaceOnce.mono_l k
  refine ⟨?_,?_,?_,?_,?_,?_,?_,?_,?_,?_,?_⟩
  ·
   intro y0 y1 y2 y3 y4 y5 y6 y7 y8 y9 y10
   unfold parquetrylaw19_PlaceOnce.l0
   repeat' first
   | (with_reducible exact ih0 _ _ _ _ _ _ _ _ _ _ _)
   | (with_reducible exact ih1 _ _ _ _ _ _ _ _ _)
   | (with_reducible exact ih2 _ _ _ _ _ _ _ _)
   | (with_reducible exact ih3 _ _ _ _ _ _ _ _ _)
   | (with_reducible exact ih4 _ _ _ _ _ _ _ _ _ _)
   | (with_reducible exact ih5 _ _ _ _ _ _ _ _ _ _)
   | (with_reducible exact ih6 _ _ _ _ _ _ _ _ _ _ _ _)
   | (with_reducible exact ih7 _ _ _ _ _ _ _ _ _ _ _ _ _)
   | (with_reducible exact ih8 _ _ _ _ _ _ _ _ _ _ _ _ _)
   | (with_reducible exact ih9 _ _ _ _ _ _ _ _ _ _ _ _)
   | (with_reducible exact ih10 _ _ _ _ _ _ _ _ _ _ _ _)
   | (with_reducible exact parquetrylaw19_awake.mono _)
   | (with_reducible exact place_Slots.mono _ _ _ _ _ _ _ _ _ _ _)
   | (with_reducible exact LeO.refl _)
   | (with_reducible exact LeO.none _)
   | (with_reducible refine LeO.ite ?_ ?_)
   | (with_reducible refine LeO.bind ?_ (fun _=>?_))
   | exact ih0 _ _ _ _ _ _ _ _ _ _ _
   | exact ih1 _ _ _ _ _ _ _ _ _
   | exact ih2 _ _ _ _ _ _ _ _
   | exact ih3 _ _ _ _ _ _ _ _ _
   | exact ih4 _ _ _ _ _ _ _ _ _ _
   | exact ih5 _ _ _ _ _ _ _ _ _ _
   | exact ih6 _ _ _ _ _ _ _ _ _ _ _ _
   | exact ih7 _ _ _ _ _ _ _ _ _ _ _ _ _
   | exact ih8 _ _ _ _ _ _ _ _ _ _ _ _ _
   | exact ih9 _ _ _ _ _ _ _ _ _ _ _ _
   | exact ih10 _ _ _ _ _ _ _ _ _ _ _ _
   | exact parquetrylaw19_awake.mono _
   | exact place_Slots.mono _ _ _ _ _ _ _ _ _ _ _
   | exact LeO.none _
   | refine LeO.ite ?_ ?_
   | refine LeO.bind ?_ (fun _=>?_)
  ·
   intro y0 y1 y2 y3 y4 y5 y6 y7 y8
   unfold parquetrylaw19_PlaceOnce.j1
   repeat' first
   | (with_reducible exact ih0 _ _ _ _ _ _ _ _ _ _ _)
   | (with_reducible exact ih1 _ _ _ _ _ _ _ _ _)
   | (with_reducible exact ih2 _ _ _ _ _ _ _ _)
   | (with_reducible exact ih3 _ _ _ _ _ _ _ _ _)
   | (with_reducible exact ih4 _ _ _ _ _ _ _ _ _ _)
   | (with_reducible exact ih5 _ _ _ _ _ _ _ _ _ _)
   | (with_reducible exact ih6 _ _ _ _ _ _ _ _ _ _ _ _)
   | (with_reducible exact ih7 _ _ _ _ _ _ _ _ _ _ _ _ _)
   | (with_reducible exact ih8 _ _ _ _ _ _ _ _ _ _ _ _ _)
   | (with_reducible exact ih9 _ _ _ _ _ _ _ _ _ _ _ _)
   | (with_reducible exact ih10 _ _ _ _ _ _ _ _ _ _ _ _)
   | (with_reducible exact parquetrylaw19_awake.mono _)
   | (with_reducible exact place_Slots.mono _ _ _ _ _ _ _ _ _ _ _)
   | (with_reducible exact LeO.refl _)
   | (with_reducible exact LeO.none _)
   | (with_reducible refine LeO.ite ?_ ?_)
   | (with_reducible refine LeO.bind ?_ (fun _=>?_))
   | exact ih0 _ _ _ _ _ _ _ _ _ _ _
   | exact ih1 _ _ _ _ _ _ _ _ _
   | exact ih2 _ _ _ _ _ _ _ _
   | exact ih3 _ _ _ _ _ _ _ _ _
   | exact ih4 _ _ _ _ _ _ _ _ _ _
   | exact ih5 _ _ _ _ _ _ _ _ _ _
   | exact ih6 _ _ _ _ _ _ _ _ _ _ _ _
   | exact ih7 _ _ _ _ _ _ _ _ _ _ _ _ _
   | exact ih8 _ _ _ _ _ _ _ _ _ _ _ _ _
   | exact ih9 _ _ _ _ _ _ _ _ _ _ _ _
   | exact ih10 _ _ _ _ _ _ _ _ _ _ _ _
   | exact parquetrylaw19_awake.mono _
   | exact place_Slots.mono _ _ _ _ _ _ _ _ _ _ _
   | exact LeO.none _
   | refine LeO.ite ?_ ?_
   | refine LeO.bind ?_ (fun _=>?_)
  ·
   intro y0 y1 y2 y3 y4 y5 y6 y7
   unfold parquetrylaw19_PlaceOnce.j2
   repeat' first
   | (with_reducible exact ih0 _ _ _ _ _ _ _ _ _ _ _)
   | (with_reducible exact ih1 _ _ _ _ _ _ _ _ _)
   | (with_reducible exact ih2 _ _ _ _ _ _ _ _)
   | (with_reducible exact ih3 _ _ _ _ _ _ _ _ _)
   | (with_reducible exact ih4 _ _ _ _ _ _ _ _ _ _)
   | (with_reducible exact ih5 _ _ _ _ _ _ _ _ _ _)
   | (with_reducible exact ih6 _ _ _ _ _ _ _ _ _ _ _ _)
   | (with_reducible exact ih7 _ _ _ _ _ _ _ _ _ _ _ _ _)
   | (with_reducible exact ih8 _ _ _ _ _ _ _ _ _ _ _ _ _)
   | (with_reducible exact ih9 _ _ _ _ _ _ _ _ _ _ _ _)
   | (with_reducible exact ih10 _ _ _ _ _ _ _ _ _ _ _ _)
   | (with_reducible exact parquetrylaw19_awake.mono _)
   | (with_reducible exact place_Slots.mono _ _ _ _ _ _ _ _ _ _ _)
   | (with_reducible exact LeO.refl _)
   | (with_reducible exact LeO.none _)
   | (with_reducible refine LeO.ite ?_ ?_)
   | (with_reducible refine LeO.bind ?_ (fun _=>?_))
   | exact ih0 _ _ _ _ _ _ _ _ _ _ _
   | exact ih1 _ _ _ _ _ _ _ _ _
   | exact ih2 _ _ _ _ _ _ _ _
   | exact ih3 _ _ _ _ _ _ _ _ _
   | exact ih4 _ _ _ _ _ _ _ _ _ _
   | exact ih5 _ _ _ _ _ _ _ _ _ _
   | exact ih6 _ _ _ _ _ _ _ _ _ _ _ _
   | exact ih7 _ _ _ _ _ _ _ _ _ _ _ _ _
   | exact ih8 _ _ _ _ _ _ _ _ _ _ _ _ _
   | exact ih9 _ _ _ _ _ _ _ _ _ _ _ _
   | exact ih10 _ _ _ _ _ _ _ _ _ _ _ _
   | exact parquetrylaw19_awake.mono _
   | exact place_Slots.mono _ _ _ _ _ _ _ _ _ _ _
   | exact LeO.none _
   | refine LeO.ite ?_ ?_
   | refine LeO.bind ?_ (fun _=>?_)
  ·
   intro y0 y1 y2 y3 y4 y5 y6 y7 y8
   unfold parquetrylaw19_PlaceOnce.l1
   repeat' first
   | (with_reducible exact ih0 _ _ _ _ _ _ _ _ _ _ _)
   | (with_reducible exact ih1 _ _ _ _ _ _ _ _ _)
   | (with_reducible exact ih2 _ _ _ _ _ _ _ _)
   | (with_reducible exact ih3 _ _ _ _ _ _ _ _ _)
   | (with_reducible exact ih4 _ _ _ _ _ _ _ _ _ _)
   | (with_reducible exact ih5 _ _ _ _ _ _ _ _ _ _)
   | (with_reducible exact ih6 _ _ _ _ _ _ _ _ _ _ _ _)
   | (with_reducible exact ih7 _ _ _ _ _ _ _ _ _ _ _ _ _)
   | (with_reducible exact ih8 _ _ _ _ _ _ _ _ _ _ _ _ _)
   | (with_reducible exact ih9 _ _ _ _ _ _ _ _ _ _ _ _)
   | (with_reducible exact ih10 _ _ _ _ _ _ _ _ _ _ _ _)
   | (with_reducible exact parquetrylaw19_awake.mono _)
   | (with_reducible exact place_Slots.mono _ _ _ _ _ _ _ _ _ _ _)
   | (with_reducible exact LeO.refl _)
   | (with_reducible exact LeO.none _)
   | (with_reducible refine LeO.ite ?_ ?_)
   | (with_reducible refine LeO.bind ?_ (fun _=>?_))
   | exact ih0 _ _ _ _ _ _ _ _ _ _ _
   | exact ih1 _ _ _ _ _ _ _ _ _
   | exact ih2 _ _ _ _ _ _ _ _
   | exact ih3 _ _ _ _ _ _ _ _ _
   | exact ih4 _ _ _ _ _ _ _ _ _ _
   | exact ih5 _ _ _ _ _ _ _ _ _ _
   | exact ih6 _ _ _ _ _ _ _ _ _ _ _ _
   | exact ih7 _ _ _ _ _ _ _ _ _ _ _ _ _
   | exact ih8 _ _ _ _ _ _ _ _ _ _ _ _ _
   | exact ih9 _ _ _ _ _ _ _ _ _ _ _ _
   | exact ih10 _ _ _ _ _ _ _ _ _ _ _ _
   | exact parquetrylaw19_awake.mono _
   | exact place_Slots.mono _ _ _ _ _ _ _ _ _ _ _
   | exact LeO.none _
   | refine LeO.ite ?_ ?_
   | refine LeO.bind ?_ (fun _=>?_)
  ·
   intro y0 y1 y2 y3 y4 y5 y6 y7 y8 y9
   unfold parquetrylaw19_PlaceOnce.l2
   repeat' first
   | (with_reducible exact ih0 _ _ _ _ _ _ _ _ _ _ _)
   | (with_reducible exact ih1 _ _ _ _ _ _ _ _ _)
   | (with_reducible exact ih2 _ _ _ _ _ _ _ _)
   | (with_reducible exact ih3 _ _ _ _ _ _ _ _ _)
   | (with_reducible exact ih4 _ _ _ _ _ _ _ _ _ _)
   | (with_reducible exact ih5 _ _ _ _ _ _ _ _ _ _)
   | (with_reducible exact ih6 _ _ _ _ _ _ _ _ _ _ _ _)
   | (with_reducible exact ih7 _ _ _ _ _ _ _ _ _ _ _ _ _)
   | (with_reducible exact ih8 _ _ _ _ _ _ _ _ _ _ _ _ _)
   | (with_reducible exact ih9 _ _ _ _ _ _ _ _ _ _ _ _)
   | (with_reducible exact ih10 _ _ _ _ _ _ _ _ _ _ _ _)
   | (with_reducible exact parquetrylaw19_awake.mono _)
   | (with_reducible exact place_Slots.mono _ _ _ _ _ _ _ _ _ _ _)
   | (with_reducible exact LeO.refl _)
   | (with_reducible exact LeO.none _)
   | (with_reducible refine LeO.ite ?_ ?_)
   | (with_reducible refine LeO.bind ?_ (fun _=>?_))
   | exact ih0 _ _ _ _ _ _ _ _ _ _ _
   | exact ih1 _ _ _ _ _ _ _ _ _
   | exact ih2 _ _ _ _ _ _ _ _
   | exact ih3 _ _ _ _ _ _ _ _ _
   | exact ih4 _ _ _ _ _ _ _ _ _ _
   | exact ih5 _ _ _ _ _ _ _ _ _ _
   | exact ih6 _ _ _ _ _ _ _ _ _ _ _ _
   | exact ih7 _ _ _ _ _ _ _ _ _ _ _ _ _
   | exact ih8 _ _ _ _ _ _ _ _ _ _ _ _ _
   | exact ih9 _ _ _ _ _ _ _ _ _ _ _ _
   | exact ih10 _ _ _ _ _ _ _ _ _ _ _ _
   | exact parquetrylaw19_awake.mono _
   | exact place_Slots.mono _ _ _ _ _ _ _ _ _ _ _
   | exact LeO.none _
   | refine LeO.ite ?_ ?_
   | refine LeO.bind ?_ (fun _=>?_)
  ·
   intro y0 y1 y2 y3 y4 y5 y6 y7 y8 y9
   unfold parquetrylaw19_PlaceOnce.l3
   repeat' first
   | (with_reducible exact ih0 _ _ _ _ _ _ _ _ _ _ _)
   | (with_reducible exact ih1 _ _ _ _ _ _ _ _ _)
   | (with_reducible exact ih2 _ _ _ _ _ _ _ _)
   | (with_reducible exact ih3 _ _ _ _ _ _ _ _ _)
   | (with_reducible exact ih4 _ _ _ _ _ _ _ _ _ _)
   | (with_reducible exact ih5 _ _ _ _ _ _ _ _ _ _)
   | (with_reducible exact ih6 _ _ _ _ _ _ _ _ _ _ _ _)
   | (with_reducible exact ih7 _ _ _ _ _ _ _ _ _ _ _ _ _)
   | (with_reducible exact ih8 _ _ _ _ _ _ _ _ _ _ _ _ _)
   | (with_reducible exact ih9 _ _ _ _ _ _ _ _ _ _ _ _)
   | (with_reducible exact ih10 _ _ _ _ _ _ _ _ _ _ _ _)
   | (with_reducible exact parquetrylaw19_awake.mono _)
   | (with_reducible exact place_Slots.mono _ _ _ _ _ _ _ _ _ _ _)
   | (with_reducible exact LeO.refl _)
   | (with_reducible exact LeO.none _)
   | (with_reducible refine LeO.ite ?_ ?_)
   | (with_reducible refine LeO.bind ?_ (fun _=>?_))
   | exact ih0 _ _ _ _ _ _ _ _ _ _ _
   | exact ih1 _ _ _ _ _ _ _ _ _
   | exact ih2 _ _ _ _ _ _ _ _
   | exact ih3 _ _ _ _ _ _ _ _ _
   | exact ih4 _ _ _ _ _ _ _ _ _ _
   | exact ih5 _ _ _ _ _ _ _ _ _ _
   | exact ih6 _ _ _ _ _ _ _ _ _ _ _ _
   | exact ih7 _ _ _ _ _ _ _ _ _ _ _ _ _
   | exact ih8 _ _ _ _ _ _ _ _ _ _ _ _ _
   | exact ih9 _ _ _ _ _ _ _ _ _ _ _ _
   | exact ih10 _ _ _ _ _ _ _ _ _ _ _ _
   | exact parquetrylaw19_awake.mono _
   | exact place_Slots.mono _ _ _ _ _ _ _ _ _ _ _
   | exact LeO.none _
   | refine LeO.ite ?_ ?_
   | refine LeO.bind ?_ (fun _=>?_)
  ·
   intro y0 y1 y2 y3 y4 y5 y6 y7 y8 y9 y10 y11
   unfold parquetrylaw19_PlaceOnce.l4
   repeat' first
   | (with_reducible exact ih0 _ _ _ _ _ _ _ _ _ _ _)
   | (with_reducible exact ih1 _ _ _ _ _ _ _ _ _)
   | (with_reducible exact ih2 _ _ _ _ _ _ _ _)
   | (with_reducible exact ih3 _ _ _ _ _ _ _ _ _)
   | (with_reducible exact ih4 _ _ _ _ _ _ _ _ _ _)
   | (with_reducible exact ih5 _ _ _ _ _ _ _ _ _ _)
   | (with_reducible exact ih6 _ _ _ _ _ _ _ _ _ _ _ _)
   | (with_reducible exact ih7 _ _ _ _ _ _ _ _ _ _ _ _ _)
   | (with_reducible exact ih8 _ _ _ _ _ _ _ _ _ _ _ _ _)
   | (with_reducible exact ih9 _ _ _ _ _ _ _ _ _ _ _ _)
   | (with_reducible exact ih10 _ _ _ _ _ _ _ _ _ _ _ _)
   | (with_reducible exact parquetrylaw19_awake.mono _)
   | (with_reducible exact place_Slots.mono _ _ _ _ _ _ _ _ _ _ _)
   | (with_reducible exact LeO.refl _)
   | (with_reducible exact LeO.none _)
   | (with_reducible refine LeO.ite ?_ ?_)
   | (with_reducible refine LeO.bind ?_ (fun _=>?_))
   | exact ih0 _ _ _ _ _ _ _ _ _ _ _
   | exact ih1 _ _ _ _ _ _ _ _ _
   | exact ih2 _ _ _ _ _ _ _ _
   | exact ih3 _ _ _ _ _ _ _ _ _
   | exact ih4 _ _ _ _ _ _ _ _ _ _
   | exact ih5 _ _ _ _ _ _ _ _ _ _
   | exact ih6 _ _ _ _ _ _ _ _ _ _ _ _
   | exact ih7 _ _ _ _ _ _ _ _ _ _ _ _ _
   | exact ih8 _ _ _ _ _ _ _ _ _ _ _ _ _
   | exact ih9 _ _ _ _ _ _ _ _ _ _ _ _
   | exact ih10 _ _ _ _ _ _ _ _ _ _ _ _
   | exact parquetrylaw19_awake.mono _
   | exact place_Slots.mono _ _ _ _ _ _ _ _ _ _ _
   | exact LeO.none _
   | refine LeO.ite ?_ ?_
   | refine LeO.bind ?_ (fun _=>?_)
  ·
   intro y0 y1 y2 y3 y4 y5 y6 y7 y8 y9 y10 y11 y12
   unfold parquetrylaw19_PlaceOnce.j7
   repeat' first
   | (with_reducible exact ih0 _ _ _ _ _ _ _ _ _ _ _)
   | (with_reducible exact ih1 _ _ _ _ _ _ _ _ _)
   | (with_reducible exact ih2 _ _ _ _ _ _ _ _)
   | (with_reducible exact ih3 _ _ _ _ _ _ _ _ _)
   | (with_reducible exact ih4 _ _ _ _ _ _ _ _ _ _)
   | (with_reducible exact ih5 _ _ _ _ _ _ _ _ _ _)
   | (with_reducible exact ih6 _ _ _ _ _ _ _ _ _ _ _ _)
   | (with_reducible exact ih7 _ _ _ _ _ _ _ _ _ _ _ _ _)
   | (with_reducible exact ih8 _ _ _ _ _ _ _ _ _ _ _ _ _)
   | (with_reducible exact ih9 _ _ _ _ _ _ _ _ _ _ _ _)
   | (with_reducible exact ih10 _ _ _ _ _ _ _ _ _ _ _ _)
   | (with_reducible exact parquetrylaw19_awake.mono _)
   | (with_reducible exact place_Slots.mono _ _ _ _ _ _ _ _ _ _ _)
   | (with_reducible exact LeO.refl _)
   | (with_reducible exact LeO.none _)
   | (with_reducible refine LeO.ite ?_ ?_)
   | (with_reducible refine LeO.bind ?_ (fun _=>?_))
   | exact ih0 _ _ _ _ _ _ _ _ _ _ _
   | exact ih1 _ _ _ _ _ _ _ _ _
   | exact ih2 _ _ _ _ _ _ _ _
   | exact ih3 _ _ _ _ _ _ _ _ _
   | exact ih4 _ _ _ _ _ _ _ _ _ _
   | exact ih5 _ _ _ _ _ _ _ _ _ _
   | exact ih6 _ _ _ _ _ _ _ _ _ _ _ _
   | exact ih7 _ _ _ _ _ _ _ _ _ _ _ _ _
   | exact ih8 _ _ _ _ _ _ _ _ _ _ _ _ _
   | exact ih9 _ _ _ _ _ _ _ _ _ _ _ _
   | exact ih10 _ _ _ _ _ _ _ _ _ _ _ _
   | exact parquetrylaw19_awake.mono _
   | exact place_Slots.mono _ _ _ _ _ _ _ _ _ _ _
   | exact LeO.none _
   | refine LeO.ite ?_ ?_
   | refine LeO.bind ?_ (fun _=>?_)
  ·
   intro y0 y1 y2 y3 y4 y5 y6 y7 y8 y9 y10 y11 y12
   unfold parquetrylaw19_PlaceOnce.j8
   repeat' first
   | (with_reducible exact ih0 _ _ _ _ _ _ _ _ _ _ _)
   | (with_reducible exact ih1 _ _ _ _ _ _ _ _ _)
   | (with_reducible exact ih2 _ _ _ _ _ _ _ _)
   | (with_reducible exact ih3 _ _ _ _ _ _ _ _ _)
   | (with_reducible exact ih4 _ _ _ _ _ _ _ _ _ _)
   | (with_reducible exact ih5 _ _ _ _ _ _ _ _ _ _)
   | (with_reducible exact ih6 _ _ _ _ _ _ _ _ _ _ _ _)
   | (with_reducible exact ih7 _ _ _ _ _ _ _ _ _ _ _ _ _)
   | (with_reducible exact ih8 _ _ _ _ _ _ _ _ _ _ _ _ _)
   | (with_reducible exact ih9 _ _ _ _ _ _ _ _ _ _ _ _)
   | (with_reducible exact ih10 _ _ _ _ _ _ _ _ _ _ _ _)
   | (with_reducible exact parquetrylaw19_awake.mono _)
   | (with_reducible exact place_Slots.mono _ _ _ _ _ _ _ _ _ _ _)
   | (with_reducible exact LeO.refl _)
   | (with_reducible exact LeO.none _)
   | (with_reducible refine LeO.ite ?_ ?_)
   | (with_reducible refine LeO.bind ?_ (fun _=>?_))
   | exact ih0 _ _ _ _ _ _ _ _ _ _ _
   | exact ih1 _ _ _ _ _ _ _ _ _
   | exact ih2 _ _ _ _ _ _ _ _
   | exact ih3 _ _ _ _ _ _ _ _ _
   | exact ih4 _ _ _ _ _ _ _ _ _ _
   | exact ih5 _ _ _ _ _ _ _ _ _ _
   | exact ih6 _ _ _ _ _ _ _ _ _ _ _ _
   | exact ih7 _ _ _ _ _ _ _ _ _ _ _ _ _
   | exact ih8 _ _ _ _ _ _ _ _ _ _ _ _ _
   | exact ih9 _ _ _ _ _ _ _ _ _ _ _ _
   | exact ih10 _ _ _ _ _ _ _ _ _ _ _ _
   | exact parquetrylaw19_awake.mono _
   | exact place_Slots.mono _ _ _ _ _ _ _ _ _ _ _
   | exact LeO.none _
   | refine LeO.ite ?_ ?_
   | refine LeO.bind ?_ (fun _=>?_)
  ·
   intro y0 y1 y2 y3 y4 y5 y6 y7 y8 y9 y10 y11
   unfold parquetrylaw19_PlaceOnce.j9
   repeat' first
   | (with_reducible exact ih0 _ _ _ _ _ _ _ _ _ _ _)
   | (with_reducible exact ih1 _ _ _ _ _ _ _ _ _)
   | (with_reducible exact ih2 _ _ _ _ _ _ _ _)
   | (with_reducible exact ih3 _ _ _ _ _ _ _ _ _)
   | (with_reducible exact ih4 _ _ _ _ _ _ _ _ _ _)
   | (with_reducible exact ih5 _ _ _ _ _ _ _ _ _ _)
   | (with_reducible exact ih6 _ _ _ _ _ _ _ _ _ _ _ _)
   | (with_reducible exact ih7 _ _ _ _ _ _ _ _ _ _ _ _ _)
   | (with_reducible exact ih8 _ _ _ _ _ _ _ _ _ _ _ _ _)
   | (with_reducible exact ih9 _ _ _ _ _ _ _ _ _ _ _ _)
   | (with_reducible exact ih10 _ _ _ _ _ _ _ _ _ _ _ _)
   | (with_reducible exact parquetrylaw19_awake.mono _)
   | (with_reducible exact place_Slots.mono _ _ _ _ _ _ _ _ _ _ _)
   | (with_reducible exact LeO.refl _)
   | (with_reducible exact LeO.none _)
   | (with_reducible refine LeO.ite ?_ ?_)
   | (with_reducible refine LeO.bind ?_ (fun _=>?_))
   | exact ih0 _ _ _ _ _ _ _ _ _ _ _
   | exact ih1 _ _ _ _ _ _ _ _ _
   | exact ih2 _ _ _ _ _ _ _ _
   | exact ih3 _ _ _ _ _ _ _ _ _
   | exact ih4 _ _ _ _ _ _ _ _ _ _
   | exact ih5 _ _ _ _ _ _ _ _ _ _
   | exact ih6 _ _ _ _ _ _ _ _ _ _ _ _
   | exact ih7 _ _ _ _ _ _ _ _ _ _ _ _ _
   | exact ih8 _ _ _ _ _ _ _ _ _ _ _ _ _
   | exact ih9 _ _ _ _ _ _ _ _ _ _ _ _
   | exact ih10 _ _ _ _ _ _ _ _ _ _ _ _
   | exact parquetrylaw19_awake.mono _
   | exact place_Slots.mono _ _ _ _ _ _ _ _ _ _ _
   | exact LeO.none _
   | refine LeO.ite ?_ ?_
   | refine LeO.bind ?_ (fun _=>?_)
  ·
   intro y0 y1 y2 y3 y4 y5 y6 y7 y8 y9 y10 y11
   unfold parquetrylaw19_PlaceOnce.l5
   repeat' first
   | (with_reducible exact ih0 _ _ _ _ _ _ _ _ _ _ _)
   | (with_reducible exact ih1 _ _ _ _ _ _ _ _ _)
   | (with_reducible exact ih2 _ _ _ _ _ _ _ _)
   | (with_reducible exact ih3 _ _ _ _ _ _ _ _ _)
   | (with_reducible exact ih4 _ _ _ _ _ _ _ _ _ _)
   | (with_reducible exact ih5 _ _ _ _ _ _ _ _ _ _)
   | (with_reducible exact ih6 _ _ _ _ _ _ _ _ _ _ _ _)
   | (with_reducible exact ih7 _ _ _ _ _ _ _ _ _ _ _ _ _)
   | (with_reducible exact ih8 _ _ _ _ _ _ _ _ _ _ _ _ _)
   | (with_reducible exact ih9 _ _ _ _ _ _ _ _ _ _ _ _)
   | (with_reducible exact ih10 _ _ _ _ _ _ _ _ _ _ _ _)
   | (with_reducible exact parquetrylaw19_awake.mono _)
   | (with_reducible exact place_Slots.mono _ _ _ _ _ _ _ _ _ _ _)
   | (with_reducible exact LeO.refl _)
   | (with_reducible exact LeO.none _)
   | (with_reducible refine LeO.ite ?_ ?_)
   | (with_reducible refine LeO.bind ?_ (fun _=>?_))
   | exact ih0 _ _ _ _ _ _ _ _ _ _ _
   | exact ih1 _ _ _ _ _ _ _ _ _
   | exact ih2 _ _ _ _ _ _ _ _
   | exact ih3 _ _ _ _ _ _ _ _ _
   | exact ih4 _ _ _ _ _ _ _ _ _ _
   | exact ih5 _ _ _ _ _ _ _ _ _ _
   | exact ih6 _ _ _ _ _ _ _ _ _ _ _ _
   | exact ih7 _ _ _ _ _ _ _ _ _ _ _ _ _
   | exact ih8 _ _ _ _ _ _ _ _ _ _ _ _ _
   | exact ih9 _ _ _ _ _ _ _ _ _ _ _ _
   | exact ih10 _ _ _ _ _ _ _ _ _ _ _ _
   | exact parquetrylaw19_awake.mono _
   | exact place_Slots.mono _ _ _ _ _ _ _ _ _ _ _
   | exact LeO.none _
   | refine LeO.ite ?_ ?_
   | refine LeO.bind ?_ (fun _=>?_)
theorem parquetrylaw19_PlaceOnce.mono: ∀ a0 a1 a2 a3 a4 a5 a6 a7 a8 a9 k,LeO (parquetrylaw19_PlaceOnce.f k a0 a1 a2 a3 a4 a5 a6 a7 a8 a9) (parquetrylaw19_PlaceOnce.f (k+1) a0 a1 a2 a3 a4 a5 a6 a7 a8 a9):=by
 intro a0 a1 a2 a3 a4 a5 a6 a7 a8 a9 k
 obtain ⟨ih0,ih1,ih2,ih3,ih4,ih5,ih6,ih7,ih8,ih9,ih10⟩:=parquetrylaw19_PlaceOnce.mono_l k
 unfold parquetrylaw19_PlaceOnce.f
 repeat' first
   | (with_reducible exact ih0 _ _ _ _ _ _ _ _ _ _ _)
   | (with_reducible exact ih1 _ _ _ _ _ _ _ _ _)
   | (with_reducible exact ih2 _ _ _ _ _ _ _ _)
   | (with_reducible exact ih3 _ _ _ _ _ _ _ _ _)
   | (with_reducible exact ih4 _ _ _ _ _ _ _ _ _ _)
   | (with_reducible exact ih5 _ _ _ _ _ _ _ _ _ _)
   | (with_reducible exact ih6 _ _ _ _ _ _ _ _ _ _ _ _)
   | (with_reducible exact ih7 _ _ _ _ _ _ _ _ _ _ _ _ _)
   | (with_reducible exact ih8 _ _ _ _ _ _ _ _ _ _ _ _ _)
   | (with_reducible exact ih9 _ _ _ _ _ _ _ _ _ _ _ _)
   | (with_reducible exact ih10 _ _ _ _ _ _ _ _ _ _ _ _)
   | (with_reducible exact parquetrylaw19_awake.mono _)
   | (with_reducible exact place_Slots.mono _ _ _ _ _ _ _ _ _ _ _)
   | (with_reducible exact LeO.refl _)
   | (with_reducible exact LeO.none _)
   | (with_reducible refine LeO.ite ?_ ?_)
   | (with_reducible refine LeO.bind ?_ (fun _=>?_))
   | exact ih0 _ _ _ _ _ _ _ _ _ _ _
   | exact ih1 _ _ _ _ _ _ _ _ _
   | exact ih2 _ _ _ _ _ _ _ _
   | exact ih3 _ _ _ _ _ _ _ _ _
   | exact ih4 _ _ _ _ _ _ _ _ _ _
   | exact ih5 _ _ _ _ _ _ _ _ _ _
   | exact ih6 _ _ _ _ _ _ _ _ _ _ _ _
   | exact ih7 _ _ _ _ _ _ _ _ _ _ _ _ _
   | exact ih8 _ _ _ _ _ _ _ _ _ _ _ _ _
   | exact ih9 _ _ _ _ _ _ _ _ _ _ _ _
   | exact ih10 _ _ _ _ _ _ _ _ _ _ _ _
   | exact parquetrylaw19_awake.mono _
   | exact place_Slots.mono _ _ _ _ _ _ _ _ _ _ _
   | exact LeO.none _
   | refine LeO.ite ?_ ?_
   | refine LeO.bind ?_ (fun _=>?_)
set_option maxHeartbeats 8000000 in
set_option maxRecDepth 100000 in
theorem parquetrylaw19_PlaceOnce.calls (k:Nat) (A0:Option Addr) (c0:Nat) (l0:List (S36)) (A1:Option Addr) (c1:Nat) (l1:List Int) (a2_0:Int) (a2_1:Int) (a2_2:Int) (a2_3:Int) (a2_4:Int) (a3:Int) (a4:Int) (a5:Int) (r:Bool) (w:World) (hr0:Kd.C k36 w A0 l0.length l0) (hc0:l0.length≤c0) (hr1:Kd.C (Kd.int .i64) w A1 l1.length l1) (hc1:l1.length≤c1) (h:parquetrylaw19_PlaceOnce.f k l0 l1 a2_0 a2_1 a2_2 a2_3 a2_4 a3 a4 a5=some r) :
  Calls Try.prog 4 #[.slice A0 l0.length c0,.slice A1 l1.length c1,.agg #[.int .i64 a2_0,.int .i64 a2_1,.int .i64 a2_2,.int .i64 a2_3,.int .i64 a2_4],.int .i64 a3,.int .i64 a4,.int .i64 a5] w fun e w'=>e= .returned (.bool r)∧Below w.heap.size w w':=by
 have hu25:=Try.underlying25
 have HR0:=Aside0.mk hr0
 have HC0:=Aside0.mk hc0
 clear hr0 hc0
 have HR1:=Aside0.mk hr1
 have HC1:=Aside0.mk hc1
 clear hr1 hc1
 have HB:=Aside0.mk (Below.refl w.heap.size w)
 have H:(if (l0.length:Int) > 200 then ((parquetrylaw19_awake.f k).bind fun t253=>(some t253)) else (parquetrylaw19_PlaceOnce.l0 k l0 l1 a3 a4 a5 1 a2_0 a2_1 a2_2 a2_3 a2_4))=some r:=h
 clear h
 by_cases c7:(l0.length:Int) > 200
 ·
  rw [if_pos c7] at H
  have c7b0:decide (200 < (l0.length:Int))=true:=decide_eq_true c7
  have c7b1:decide (200 < l0.length)=true:=decide_eq_true (by omega)
  clear c7
  replace H:=Option.bind_eq_some_iff.mp H
  obtain ⟨t253,A80,H⟩:=H
  replace H:(some t253)=some r:=H
  have A8:=Aside0.mk A80
  clear A80
  obtain rfl:=Option.some.inj H
  go_enter Try.func4,Try.ntmps4
  try dsimp only [List.append]
  go_wp2_with (first|((with_reducible refine gate_dst (N:=8) rfl ?_);(try (refine gate_guard (by rfl) ?_;dsimp only));refine box_event ?hg (N:=8) ?hd (cs:= #[.int .i64 a2_0,.int .i64 a2_1,.int .i64 a2_2,.int .i64 a2_3,.int .i64 a2_4]) (t:=25) ?hr ?_;(case hd=>rfl);(case hg=>rfl);(case hr=>first|(go_simp;done)|(go_simp;rfl));intro gb252 hg w9 hbox hb;have n0_:=Aside0.mk (below_step (by repeat (first|(with_reducible first|exact HB.out|apply below_alloc|apply pw_below_drewN|apply below_drew1)|exact HB.out)) hb);have n1_:=Aside0.mk (hbox);have n2_:=Aside0.mk ((by rw [hg];exact (below_size (by repeat (first|(with_reducible first|exact HB.out|apply below_alloc|apply pw_below_drewN|apply below_drew1)|exact HB.out))):w.heap.size≤gb252));have n3_:=Aside0.mk ((by rw [hg];exact (below_size (by repeat (first|(with_reducible first|exact HB.out|apply below_alloc|apply pw_below_drewN|apply below_drew1)|exact HB.out))):w.heap.size≤gb252));clear HB;have HB:=n0_;have BK252:=n1_;have GW252:=n2_;have GE252:=n3_;clear n0_ n1_ n2_ n3_;clear hb hbox hg)|(go_at_call 7;(with_reducible refine (parquetrylaw19_awake.calls k t253 _ A8.out).mono ?_);rintro e w10 ⟨rfl,hb⟩;have n0_:=Aside0.mk (blk_below (g:=gb252) (o:= .cells #[.int .i64 a2_0,.int .i64 a2_1,.int .i64 a2_2,.int .i64 a2_3,.int .i64 a2_4] 25 (0,0)) (by (with_reducible repeat (first|refine blk_drewN ?_ _|refine blk_drew ?_|refine blk_alloc ?_ _));exact BK252.out) hb);have n1_:=Aside0.mk (below_step (by repeat (first|(with_reducible first|exact HB.out|apply below_alloc|apply pw_below_drewN|apply below_drew1|refine below_set ?_ GE252.out)|exact HB.out)) hb);clear BK252;clear HB;have BK252:=n0_;have HB:=n1_;clear n0_ n1_;(try clear hb);(try clear hb2);(try clear hk);(try clear hi)))
  repeat (go_quiet (first|((with_reducible refine gate_dst (N:=8) rfl ?_);(try (refine gate_guard (by rfl) ?_;dsimp only));refine box_event ?hg (N:=8) ?hd (cs:= #[.int .i64 a2_0,.int .i64 a2_1,.int .i64 a2_2,.int .i64 a2_3,.int .i64 a2_4]) (t:=25) ?hr ?_;(case hd=>rfl);(case hg=>rfl);(case hr=>first|(go_simp;done)|(go_simp;rfl));intro gb252 hg w9 hbox hb;have n0_:=Aside0.mk (below_step (by repeat (first|(with_reducible first|exact HB.out|apply below_alloc|apply pw_below_drewN|apply below_drew1)|exact HB.out)) hb);have n1_:=Aside0.mk (hbox);have n2_:=Aside0.mk ((by rw [hg];exact (below_size (by repeat (first|(with_reducible first|exact HB.out|apply below_alloc|apply pw_below_drewN|apply below_drew1)|exact HB.out))):w.heap.size≤gb252));have n3_:=Aside0.mk ((by rw [hg];exact (below_size (by repeat (first|(with_reducible first|exact HB.out|apply below_alloc|apply pw_below_drewN|apply below_drew1)|exact HB.out))):w.heap.size≤gb252));clear HB;have HB:=n0_;have BK252:=n1_;have GW252:=n2_;have GE252:=n3_;clear n0_ n1_ n2_ n3_;clear hb hbox hg)|(go_at_call 7;(with_reducible refine (parquetrylaw19_awake.calls k t253 _ A8.out).mono ?_);rintro e w10 ⟨rfl,hb⟩;have n0_:=Aside0.mk (blk_below (g:=gb252) (o:= .cells #[.int .i64 a2_0,.int .i64 a2_1,.int .i64 a2_2,.int .i64 a2_3,.int .i64 a2_4] 25 (0,0)) (by (with_reducible repeat (first|refine blk_drewN ?_ _|refine blk_drew ?_|refine blk_alloc ?_ _));exact BK252.out) hb);have n1_:=Aside0.mk (below_step (by repeat (first|(with_reducible first|exact HB.out|apply below_alloc|apply pw_below_drewN|apply below_drew1|refine below_set ?_ GE252.out)|exact HB.out)) hb);clear BK252;clear HB;have BK252:=n0_;have HB:=n1_;clear n0_ n1_;(try clear hb);(try clear hb2);(try clear hk);(try clear hi)));try go_wp2_with (first|((with_reducible refine gate_dst (N:=8) rfl ?_);(try (refine gate_guard (by rfl) ?_;dsimp only));refine box_event ?hg (N:=8) ?hd (cs:= #[.int .i64 a2_0,.int .i64 a2_1,.int .i64 a2_2,.int .i64 a2_3,.int .i64 a2_4]) (t:=25) ?hr ?_;(case hd=>rfl);(case hg=>rfl);(case hr=>first|(go_simp;done)|(go_simp;rfl));intro gb252 hg w9 hbox hb;have n0_:=Aside0.mk (below_step (by repeat (first|(with_reducible first|exact HB.out|apply below_alloc|apply pw_below_drewN|apply below_drew1)|exact HB.out)) hb);have n1_:=Aside0.mk (hbox);have n2_:=Aside0.mk ((by rw [hg];exact (below_size (by repeat (first|(with_reducible first|exact HB.out|apply below_alloc|apply pw_below_drewN|apply below_drew1)|exact HB.out))):w.heap.size≤gb252));have n3_:=Aside0.mk ((by rw [hg];exact (below_size (by repeat (first|(with_reducible first|exact HB.out|apply below_alloc|apply pw_below_drewN|apply below_drew1)|exact HB.out))):w.heap.size≤gb252));clear HB;have HB:=n0_;have BK252:=n1_;have GW252:=n2_;have GE252:=n3_;clear n0_ n1_ n2_ n3_;clear hb hbox hg)|(go_at_call 7;(with_reducible refine (parquetrylaw19_awake.calls k t253 _ A8.out).mono ?_);rintro e w10 ⟨rfl,hb⟩;have n0_:=Aside0.mk (blk_below (g:=gb252) (o:= .cells #[.int .i64 a2_0,.int .i64 a2_1,.int .i64 a2_2,.int .i64 a2_3,.int .i64 a2_4] 25 (0,0)) (by (with_reducible repeat (first|refine blk_drewN ?_ _|refine blk_drew ?_|refine blk_alloc ?_ _));exact BK252.out) hb);have n1_:=Aside0.mk (below_step (by repeat (first|(with_reducible first|exact HB.out|apply below_alloc|apply pw_below_drewN|apply below_drew1|refine below_set ?_ GE252.out)|exact HB.out)) hb);clear BK252;clear HB;have BK252:=n0_;have HB:=n1_;clear n0_ n1_;(try clear hb);(try clear hb2);(try clear hk);(try clear hi))))
  go_ret
  exact ⟨by first|rfl|(simp [errW_none,errW_some] <;> rfl)|(simp [*,errW_none,errW_some] <;> rfl),by repeat (first|(with_reducible first|exact HB.out|apply below_alloc|apply pw_below_drewN|apply below_drew1|refine below_set ?_ GE252.out)|exact HB.out)⟩
 ·
  rw [if_neg c7] at H
  have c7b0:decide (200 < (l0.length:Int))=false:=decide_eq_false c7
  have c7b1:decide (200 < l0.length)=false:=decide_eq_false (by omega)
  clear c7
  have H':=Aside0.mk H
  clear H
  go_enter Try.func4,Try.ntmps4
  try dsimp only [List.append]
  go_wp2_with (first|((with_reducible refine gate_dst (N:=8) rfl ?_);(try (refine gate_guard (by rfl) ?_;dsimp only));refine box_event ?hg (N:=8) ?hd (cs:= #[.int .i64 a2_0,.int .i64 a2_1,.int .i64 a2_2,.int .i64 a2_3,.int .i64 a2_4]) (t:=25) ?hr ?_;(case hd=>rfl);(case hg=>rfl);(case hr=>first|(go_simp;done)|(go_simp;rfl));intro gb252 hg w11 hbox hb;have n0_:=Aside0.mk (below_step (by repeat (first|(with_reducible first|exact HB.out|apply below_alloc|apply pw_below_drewN|apply below_drew1)|exact HB.out)) hb);have n1_:=Aside0.mk (hbox);have n2_:=Aside0.mk ((by rw [hg];exact (below_size (by repeat (first|(with_reducible first|exact HB.out|apply below_alloc|apply pw_below_drewN|apply below_drew1)|exact HB.out))):w.heap.size≤gb252));have n3_:=Aside0.mk ((by rw [hg];exact (below_size (by repeat (first|(with_reducible first|exact HB.out|apply below_alloc|apply pw_below_drewN|apply below_drew1)|exact HB.out))):w.heap.size≤gb252));clear HB;have HB:=n0_;have BK252:=n1_;have GW252:=n2_;have GE252:=n3_;clear n0_ n1_ n2_ n3_;clear hb hbox hg))
  repeat (go_quiet (first|((with_reducible refine gate_dst (N:=8) rfl ?_);(try (refine gate_guard (by rfl) ?_;dsimp only));refine box_event ?hg (N:=8) ?hd (cs:= #[.int .i64 a2_0,.int .i64 a2_1,.int .i64 a2_2,.int .i64 a2_3,.int .i64 a2_4]) (t:=25) ?hr ?_;(case hd=>rfl);(case hg=>rfl);(case hr=>first|(go_simp;done)|(go_simp;rfl));intro gb252 hg w11 hbox hb;have n0_:=Aside0.mk (below_step (by repeat (first|(with_reducible first|exact HB.out|apply below_alloc|apply pw_below_drewN|apply below_drew1)|exact HB.out)) hb);have n1_:=Aside0.mk (hbox);have n2_:=Aside0.mk ((by rw [hg];exact (below_size (by repeat (first|(with_reducible first|exact HB.out|apply below_alloc|apply pw_below_drewN|apply below_drew1)|exact HB.out))):w.heap.size≤gb252));have n3_:=Aside0.mk ((by rw [hg];exact (below_size (by repeat (first|(with_reducible first|exact HB.out|apply below_alloc|apply pw_below_drewN|apply below_drew1)|exact HB.out))):w.heap.size≤gb252));clear HB;have HB:=n0_;have BK252:=n1_;have GW252:=n2_;have GE252:=n3_;clear n0_ n1_ n2_ n3_;clear hb hbox hg));try go_wp2_with (first|((with_reducible refine gate_dst (N:=8) rfl ?_);(try (refine gate_guard (by rfl) ?_;dsimp only));refine box_event ?hg (N:=8) ?hd (cs:= #[.int .i64 a2_0,.int .i64 a2_1,.int .i64 a2_2,.int .i64 a2_3,.int .i64 a2_4]) (t:=25) ?hr ?_;(case hd=>rfl);(case hg=>rfl);(case hr=>first|(go_simp;done)|(go_simp;rfl));intro gb252 hg w11 hbox hb;have n0_:=Aside0.mk (below_step (by repeat (first|(with_reducible first|exact HB.out|apply below_alloc|apply pw_below_drewN|apply below_drew1)|exact HB.out)) hb);have n1_:=Aside0.mk (hbox);have n2_:=Aside0.mk ((by rw [hg];exact (below_size (by repeat (first|(with_reducible first|exact HB.out|apply below_alloc|apply pw_below_drewN|apply below_drew1)|exact HB.out))):w.heap.size≤gb252));have n3_:=Aside0.mk ((by rw [hg];exact (below_size (by repeat (first|(with_reducible first|exact HB.out|apply below_alloc|apply pw_below_drewN|apply below_drew1)|exact HB.out))):w.heap.size≤gb252));clear HB;have HB:=n0_;have BK252:=n1_;have GW252:=n2_;have GE252:=n3_;clear n0_ n1_ n2_ n3_;clear hb hbox hg)))
  go_loopg [13] k (fun kq v13 w'=> ∃ (x13_1:Int),v13= .int .i64 x13_1∧Aside0 (parquetrylaw19_PlaceOnce.l0 kq l0 l1 a3 a4 a5 x13_1 a2_0 a2_1 a2_2 a2_3 a2_4=some r)∧Aside0 (kq≤k)∧Aside0 (w'.heap[gb252]?=some (.cells #[.int .i64 a2_0,.int .i64 a2_1,.int .i64 a2_2,.int .i64 a2_3,.int .i64 a2_4] 25 (0,0)))∧Aside0 (Below w.heap.size w w'))
  case atStart=>exact ⟨(1),(by first|rfl|(simp;done)|(simp [*];done)),H',⟨Nat.le_refl _⟩,⟨by (with_reducible repeat (first|refine blk_drewN ?_ _|refine blk_drew ?_|refine blk_alloc ?_ _));exact BK252.out⟩,⟨by repeat (first|(with_reducible first|exact HB.out|apply below_alloc|apply pw_below_drewN|apply below_drew1|refine below_set ?_ GE252.out)|exact HB.out)⟩⟩
  case round => as_aux_lemma =>
   clear H'
   try clear c1
   try clear p2
   try clear c4
   try clear c7
   try clear c7b0
   try clear c7b1
   obtain ⟨x13_1,rfl,HA,HK1,BK252,HB⟩:=hrel
   cases gk with
   | zero=>exact absurd HA.out (by simp [parquetrylaw19_PlaceOnce.l0])
   | succ k1 =>
    have H:=HA.out
    clear HA
    simp only [parquetrylaw19_PlaceOnce.l0] at H
    by_cases c12:x13_1 < (l0.length:Int)
    ·
     rw [if_pos c12] at H
     have c12b0:decide (x13_1 < (l0.length:Int))=true:=decide_eq_true c12
     clear c12
     by_cases c13:0≤x13_1
     ·
      rw [if_pos c13] at H
      have c13b0:decide (0≤x13_1)=true:=decide_eq_true c13
      clear c13
      obtain ⟨ji14,hji14⟩: ∃ j_:Int,(wrap64 (x13_1 - 1))=j_:=⟨_,rfl⟩
      replace H:(if 0≤(ji14) then (if (ji14) < (l0.length:Int) then (if ((rd_T36 l0 x13_1).f0)≤((rd_T36 l0 (ji14)).f0) then ((parquetrylaw19_awake.f k1).bind fun t256=>(some t256)) else (parquetrylaw19_PlaceOnce.l0 k1 l0 l1 a3 a4 a5 (wrap64 (x13_1+1)) a2_0 a2_1 a2_2 a2_3 a2_4)) else (none)) else (none))=some r:=by first|(rw [hji14] at H;exact H)|(simp only [hji14] at H ⊢;exact H)
      have hji14w:(IntKind.i64.wrap (x13_1 - 1))=ji14:=(i64_w _).trans hji14
      by_cases c15:0≤(ji14)
      ·
       rw [if_pos c15] at H
       have c15b0:decide (0≤(ji14))=true:=decide_eq_true c15
       clear c15
       by_cases c16:(ji14) < (l0.length:Int)
       ·
        rw [if_pos c16] at H
        have c16b0:decide ((ji14) < (l0.length:Int))=true:=decide_eq_true c16
        clear c16
        by_cases c17:((rd_T36 l0 x13_1).f0)≤((rd_T36 l0 (ji14)).f0)
        ·
         rw [if_pos c17] at H
         have c17b0:decide (((rd_T36 l0 x13_1).f0)≤((rd_T36 l0 (ji14)).f0))=true:=decide_eq_true c17
         clear c17
         replace H:=Option.bind_eq_some_iff.mp H
         obtain ⟨t256,A180,H⟩:=H
         replace H:(some t256)=some r:=H
         have A18:=Aside0.mk A180
         clear A180
         obtain rfl:=Option.some.inj H
         have p254:0≤(x13_1:Int):=of_decide_eq_true (by first|(with_reducible assumption)|assumption)
         have q254:x13_1 < (l0.length:Int):=of_decide_eq_true (by first|(with_reducible assumption)|assumption)
         obtain ⟨ad254,e254,hx254_0,hx254_1,hx254_2⟩:=at_T36 HR0.out x13_1 p254 q254
         cases e254
         replace hx254_0:=(HB.out.cell (World.block_lt_of_cell? w _ hx254_0)).trans hx254_0
         replace hx254_1:=(HB.out.cell (World.block_lt_of_cell? w _ hx254_1)).trans hx254_1
         replace hx254_2:=(HB.out.cell (World.block_lt_of_cell? w _ hx254_2)).trans hx254_2
         replace p254:=eq_true p254
         replace q254:=eq_true q254
         have p255:0≤((ji14):Int):=of_decide_eq_true (by first|(with_reducible assumption)|assumption)
         have q255:(ji14) < (l0.length:Int):=of_decide_eq_true (by first|(with_reducible assumption)|assumption)
         obtain ⟨ad255,e255,hx255_0,hx255_1,hx255_2⟩:=at_T36 HR0.out (ji14) p255 q255
         obtain rfl:ad254=ad255:=(by injection e255)
         replace hx255_0:=(HB.out.cell (World.block_lt_of_cell? w _ hx255_0)).trans hx255_0
         replace hx255_1:=(HB.out.cell (World.block_lt_of_cell? w _ hx255_1)).trans hx255_1
         replace hx255_2:=(HB.out.cell (World.block_lt_of_cell? w _ hx255_2)).trans hx255_2
         replace p255:=eq_true p255
         replace q255:=eq_true q255
         go_wp2_with (first|(go_at_call 7;(with_reducible refine (parquetrylaw19_awake.calls k1 t256 _ A18.out).mono ?_);rintro e w19 ⟨rfl,hb⟩;have n0_:=Aside0.mk (blk_below (g:=gb252) (o:= .cells #[.int .i64 a2_0,.int .i64 a2_1,.int .i64 a2_2,.int .i64 a2_3,.int .i64 a2_4] 25 (0,0)) (by (with_reducible repeat (first|refine blk_drewN ?_ _|refine blk_drew ?_|refine blk_alloc ?_ _));exact BK252.out) hb);have n1_:=Aside0.mk (below_step (by repeat (first|(with_reducible first|exact HB.out|apply below_alloc|apply pw_below_drewN|apply below_drew1|refine below_set ?_ GE252.out)|exact HB.out)) hb);clear BK252;clear HB;have BK252:=n0_;have HB:=n1_;clear n0_ n1_;(try clear hb);(try clear hb2);(try clear hk);(try clear hi)))
         repeat (go_quiet (first|(go_at_call 7;(with_reducible refine (parquetrylaw19_awake.calls k1 t256 _ A18.out).mono ?_);rintro e w19 ⟨rfl,hb⟩;have n0_:=Aside0.mk (blk_below (g:=gb252) (o:= .cells #[.int .i64 a2_0,.int .i64 a2_1,.int .i64 a2_2,.int .i64 a2_3,.int .i64 a2_4] 25 (0,0)) (by (with_reducible repeat (first|refine blk_drewN ?_ _|refine blk_drew ?_|refine blk_alloc ?_ _));exact BK252.out) hb);have n1_:=Aside0.mk (below_step (by repeat (first|(with_reducible first|exact HB.out|apply below_alloc|apply pw_below_drewN|apply below_drew1|refine below_set ?_ GE252.out)|exact HB.out)) hb);clear BK252;clear HB;have BK252:=n0_;have HB:=n1_;clear n0_ n1_;(try clear hb);(try clear hb2);(try clear hk);(try clear hi)));try go_wp2_with (first|(go_at_call 7;(with_reducible refine (parquetrylaw19_awake.calls k1 t256 _ A18.out).mono ?_);rintro e w19 ⟨rfl,hb⟩;have n0_:=Aside0.mk (blk_below (g:=gb252) (o:= .cells #[.int .i64 a2_0,.int .i64 a2_1,.int .i64 a2_2,.int .i64 a2_3,.int .i64 a2_4] 25 (0,0)) (by (with_reducible repeat (first|refine blk_drewN ?_ _|refine blk_drew ?_|refine blk_alloc ?_ _));exact BK252.out) hb);have n1_:=Aside0.mk (below_step (by repeat (first|(with_reducible first|exact HB.out|apply below_alloc|apply pw_below_drewN|apply below_drew1|refine below_set ?_ GE252.out)|exact HB.out)) hb);clear BK252;clear HB;have BK252:=n0_;have HB:=n1_;clear n0_ n1_;(try clear hb);(try clear hb2);(try clear hk);(try clear hi))))
         go_ret
         exact ⟨by first|rfl|(simp [errW_none,errW_some] <;> rfl)|(simp only [← hji14];first|rfl|(simp [errW_none,errW_some] <;> rfl))|(simp [*,errW_none,errW_some] <;> rfl),by repeat (first|(with_reducible first|exact HB.out|apply below_alloc|apply pw_below_drewN|apply below_drew1|refine below_set ?_ GE252.out)|exact HB.out)⟩
        ·
         rw [if_neg c17] at H
         have c17b0:decide (((rd_T36 l0 x13_1).f0)≤((rd_T36 l0 (ji14)).f0))=false:=decide_eq_false c17
         clear c17
         have H':=Aside0.mk H
         clear H
         have p254:0≤(x13_1:Int):=of_decide_eq_true (by first|(with_reducible assumption)|assumption)
         have q254:x13_1 < (l0.length:Int):=of_decide_eq_true (by first|(with_reducible assumption)|assumption)
         obtain ⟨ad254,e254,hx254_0,hx254_1,hx254_2⟩:=at_T36 HR0.out x13_1 p254 q254
         cases e254
         replace hx254_0:=(HB.out.cell (World.block_lt_of_cell? w _ hx254_0)).trans hx254_0
         replace hx254_1:=(HB.out.cell (World.block_lt_of_cell? w _ hx254_1)).trans hx254_1
         replace hx254_2:=(HB.out.cell (World.block_lt_of_cell? w _ hx254_2)).trans hx254_2
         replace p254:=eq_true p254
         replace q254:=eq_true q254
         have p255:0≤((ji14):Int):=of_decide_eq_true (by first|(with_reducible assumption)|assumption)
         have q255:(ji14) < (l0.length:Int):=of_decide_eq_true (by first|(with_reducible assumption)|assumption)
         obtain ⟨ad255,e255,hx255_0,hx255_1,hx255_2⟩:=at_T36 HR0.out (ji14) p255 q255
         obtain rfl:ad254=ad255:=(by injection e255)
         replace hx255_0:=(HB.out.cell (World.block_lt_of_cell? w _ hx255_0)).trans hx255_0
         replace hx255_1:=(HB.out.cell (World.block_lt_of_cell? w _ hx255_1)).trans hx255_1
         replace hx255_2:=(HB.out.cell (World.block_lt_of_cell? w _ hx255_2)).trans hx255_2
         replace p255:=eq_true p255
         replace q255:=eq_true q255
         go_wp2
         repeat (go_quiet (fail);try go_wp2)
         go_roundg k1
         case measure=>have:=HK1.out;omega
         case rel=>exact ⟨(wrap64 (x13_1+1)),(by first|rfl|(simp;done)|(simp [*];done)),H',⟨by have:=HK1.out;omega⟩,⟨by (with_reducible repeat (first|refine blk_drewN ?_ _|refine blk_drew ?_|refine blk_alloc ?_ _));exact BK252.out⟩,⟨by repeat (first|(with_reducible first|exact HB.out|apply below_alloc|apply pw_below_drewN|apply below_drew1|refine below_set ?_ GE252.out)|exact HB.out)⟩⟩
       ·
        rw [if_neg c16] at H
        exact absurd H (by simp)
      ·
       rw [if_neg c15] at H
       exact absurd H (by simp)
     ·
      rw [if_neg c13] at H
      exact absurd H (by simp)
    ·
     rw [if_neg c12] at H
     have c12b0:decide (x13_1 < (l0.length:Int))=false:=decide_eq_false c12
     clear c12
     replace H:=Option.bind_eq_some_iff.mp H
     obtain ⟨⟨t257,t260⟩,A200,H⟩:=H
     replace H:(if t260=0 then ((cluster_Of.f l0).bind fun t262=>(if (t257.length:Int)=a4 then (parquetrylaw19_PlaceOnce.j1 k1 a4 t257 t262 (decide (a2_1 > (t262.length:Int))) a2_0 a2_1 a2_2 a2_3 a2_4) else (parquetrylaw19_PlaceOnce.j1 k1 a4 t257 t262 true a2_0 a2_1 a2_2 a2_3 a2_4))) else (if (t257.length:Int)=0 then ((parquetrylaw19_awake.f k1).bind fun t261=>(some t261)) else (none)))=some r:=H
     have A20:=Aside0.mk A200
     clear A200
     by_cases c21:t260=0
     ·
      rw [if_pos c21] at H
      have c21b0:(t260==0)=true:=beq_iff_eq.mpr c21
      have c21b1:(t260 !=0)=false:=bne_eq_false_iff_eq.mpr c21
      clear c21
      replace H:=Option.bind_eq_some_iff.mp H
      obtain ⟨t262,A220,H⟩:=H
      replace H:(if (t257.length:Int)=a4 then (parquetrylaw19_PlaceOnce.j1 k1 a4 t257 t262 (decide (a2_1 > (t262.length:Int))) a2_0 a2_1 a2_2 a2_3 a2_4) else (parquetrylaw19_PlaceOnce.j1 k1 a4 t257 t262 true a2_0 a2_1 a2_2 a2_3 a2_4))=some r:=H
      have A22:=Aside0.mk A220
      clear A220
      have HC23:=Aside0.mk H
      clear H
      have hcz24_0:wr.cell? ⟨gb252,0,none⟩=some (.int .i64 a2_0):=(blk_cell BK252.out 0).trans rfl
      have hcz24_1:wr.cell? ⟨gb252,1,none⟩=some (.int .i64 a2_1):=(blk_cell BK252.out 1).trans rfl
      have hcz24_2:wr.cell? ⟨gb252,2,none⟩=some (.int .i64 a2_2):=(blk_cell BK252.out 2).trans rfl
      have hcz24_3:wr.cell? ⟨gb252,3,none⟩=some (.int .i64 a2_3):=(blk_cell BK252.out 3).trans rfl
      have hcz24_4:wr.cell? ⟨gb252,4,none⟩=some (.int .i64 a2_4):=(blk_cell BK252.out 4).trans rfl
      have hfz24_0:=blk_frozen BK252.out 0
      have hfz24_1:=blk_frozen BK252.out 1
      have hfz24_2:=blk_frozen BK252.out 2
      have hfz24_3:=blk_frozen BK252.out 3
      have hfz24_4:=blk_frozen BK252.out 4
      go_upto_region 12 with (first|(go_at_call 8;(with_reducible refine (place_Slots.calls k1 _ _ l0 _ _ l1 a2_0 a2_1 a2_2 a2_3 a2_4 a3 a4 a5 t257 t260 _ ?side1 ?side2 ?side3 ?side4 A20.out).mono ?_);(case side1=>repeat (first|exact (Kd.C_below HR0.out HB.out)|(with_reducible refine Kd.C_alloc ?_ _)|(with_reducible refine Kd.C_drewN ?_ _)|(with_reducible refine Kd.C_drew ?_)));(case side2=>exact HC0.out);(case side3=>repeat (first|exact (Kd.C_below HR1.out HB.out)|(with_reducible refine Kd.C_alloc ?_ _)|(with_reducible refine Kd.C_drewN ?_ _)|(with_reducible refine Kd.C_drew ?_)));(case side4=>exact HC1.out);rintro e w25 ⟨v258,rfl,ho0,hb⟩;have n0_:=Aside0.mk (Kd.R_lower ho0 (below_size (by repeat (first|(with_reducible first|exact HB.out|apply below_alloc|apply pw_below_drewN|apply below_drew1|refine below_set ?_ GE252.out)|exact HB.out))));have n1_:=Aside0.mk (blk_below (g:=gb252) (o:= .cells #[.int .i64 a2_0,.int .i64 a2_1,.int .i64 a2_2,.int .i64 a2_3,.int .i64 a2_4] 25 (0,0)) (by (with_reducible repeat (first|refine blk_drewN ?_ _|refine blk_drew ?_|refine blk_alloc ?_ _));exact BK252.out) hb);have n2_:=Aside0.mk (below_step (by repeat (first|(with_reducible first|exact HB.out|apply below_alloc|apply pw_below_drewN|apply below_drew1|refine below_set ?_ GE252.out)|exact HB.out)) hb);clear BK252;clear HB;have HO259:=n0_;have BK252:=n1_;have HB:=n2_;clear n0_ n1_ n2_;(try clear hb);(try clear hb2);(try clear hk);(try clear hi);(try clear ho0))|(go_at_call 13;(with_reducible refine (cluster_Of.calls _ _ l0 t262 _ ?side1 ?side2 A22.out).mono ?_);(case side1=>repeat (first|exact (Kd.C_below HR0.out HB.out)|(with_reducible refine Kd.C_alloc ?_ _)|(with_reducible refine Kd.C_drewN ?_ _)|(with_reducible refine Kd.C_drew ?_)));(case side2=>exact HC0.out);rintro e w26 ⟨v263,rfl,ho0,hb⟩;have n0_:=Aside0.mk (Kd.R_below (by (with_reducible repeat (first|apply Kd.R_alloc|apply Kd.R_drewN|apply Kd.R_drew));exact HO259.out) hb);have n1_:=Aside0.mk (Kd.R_lower ho0 (below_size (by repeat (first|(with_reducible first|exact HB.out|apply below_alloc|apply pw_below_drewN|apply below_drew1|refine below_set ?_ GE252.out)|exact HB.out))));have n2_:=Aside0.mk (blk_below (g:=gb252) (o:= .cells #[.int .i64 a2_0,.int .i64 a2_1,.int .i64 a2_2,.int .i64 a2_3,.int .i64 a2_4] 25 (0,0)) (by (with_reducible repeat (first|refine blk_drewN ?_ _|refine blk_drew ?_|refine blk_alloc ?_ _));exact BK252.out) hb);have n3_:=Aside0.mk (below_step (by repeat (first|(with_reducible first|exact HB.out|apply below_alloc|apply pw_below_drewN|apply below_drew1|refine below_set ?_ GE252.out)|exact HB.out)) hb);clear HO259;clear BK252;clear HB;have HO259:=n0_;have HO264:=n1_;have BK252:=n2_;have HB:=n3_;clear n0_ n1_ n2_ n3_;(try clear hb);(try clear hb2);(try clear hk);(try clear hi);(try clear ho0)))
      repeat (go_quiet (first|(go_at_call 8;(with_reducible refine (place_Slots.calls k1 _ _ l0 _ _ l1 a2_0 a2_1 a2_2 a2_3 a2_4 a3 a4 a5 t257 t260 _ ?side1 ?side2 ?side3 ?side4 A20.out).mono ?_);(case side1=>repeat (first|exact (Kd.C_below HR0.out HB.out)|(with_reducible refine Kd.C_alloc ?_ _)|(with_reducible refine Kd.C_drewN ?_ _)|(with_reducible refine Kd.C_drew ?_)));(case side2=>exact HC0.out);(case side3=>repeat (first|exact (Kd.C_below HR1.out HB.out)|(with_reducible refine Kd.C_alloc ?_ _)|(with_reducible refine Kd.C_drewN ?_ _)|(with_reducible refine Kd.C_drew ?_)));(case side4=>exact HC1.out);rintro e w25 ⟨v258,rfl,ho0,hb⟩;have n0_:=Aside0.mk (Kd.R_lower ho0 (below_size (by repeat (first|(with_reducible first|exact HB.out|apply below_alloc|apply pw_below_drewN|apply below_drew1|refine below_set ?_ GE252.out)|exact HB.out))));have n1_:=Aside0.mk (blk_below (g:=gb252) (o:= .cells #[.int .i64 a2_0,.int .i64 a2_1,.int .i64 a2_2,.int .i64 a2_3,.int .i64 a2_4] 25 (0,0)) (by (with_reducible repeat (first|refine blk_drewN ?_ _|refine blk_drew ?_|refine blk_alloc ?_ _));exact BK252.out) hb);have n2_:=Aside0.mk (below_step (by repeat (first|(with_reducible first|exact HB.out|apply below_alloc|apply pw_below_drewN|apply below_drew1|refine below_set ?_ GE252.out)|exact HB.out)) hb);clear BK252;clear HB;have HO259:=n0_;have BK252:=n1_;have HB:=n2_;clear n0_ n1_ n2_;(try clear hb);(try clear hb2);(try clear hk);(try clear hi);(try clear ho0))|(go_at_call 13;(with_reducible refine (cluster_Of.calls _ _ l0 t262 _ ?side1 ?side2 A22.out).mono ?_);(case side1=>repeat (first|exact (Kd.C_below HR0.out HB.out)|(with_reducible refine Kd.C_alloc ?_ _)|(with_reducible refine Kd.C_drewN ?_ _)|(with_reducible refine Kd.C_drew ?_)));(case side2=>exact HC0.out);rintro e w26 ⟨v263,rfl,ho0,hb⟩;have n0_:=Aside0.mk (Kd.R_below (by (with_reducible repeat (first|apply Kd.R_alloc|apply Kd.R_drewN|apply Kd.R_drew));exact HO259.out) hb);have n1_:=Aside0.mk (Kd.R_lower ho0 (below_size (by repeat (first|(with_reducible first|exact HB.out|apply below_alloc|apply pw_below_drewN|apply below_drew1|refine below_set ?_ GE252.out)|exact HB.out))));have n2_:=Aside0.mk (blk_below (g:=gb252) (o:= .cells #[.int .i64 a2_0,.int .i64 a2_1,.int .i64 a2_2,.int .i64 a2_3,.int .i64 a2_4] 25 (0,0)) (by (with_reducible repeat (first|refine blk_drewN ?_ _|refine blk_drew ?_|refine blk_alloc ?_ _));exact BK252.out) hb);have n3_:=Aside0.mk (below_step (by repeat (first|(with_reducible first|exact HB.out|apply below_alloc|apply pw_below_drewN|apply below_drew1|refine below_set ?_ GE252.out)|exact HB.out)) hb);clear HO259;clear BK252;clear HB;have HO259:=n0_;have HO264:=n1_;have BK252:=n2_;have HB:=n3_;clear n0_ n1_ n2_ n3_;(try clear hb);(try clear hb2);(try clear hk);(try clear hi);(try clear ho0)));go_upto_region 12 with (first|(go_at_call 8;(with_reducible refine (place_Slots.calls k1 _ _ l0 _ _ l1 a2_0 a2_1 a2_2 a2_3 a2_4 a3 a4 a5 t257 t260 _ ?side1 ?side2 ?side3 ?side4 A20.out).mono ?_);(case side1=>repeat (first|exact (Kd.C_below HR0.out HB.out)|(with_reducible refine Kd.C_alloc ?_ _)|(with_reducible refine Kd.C_drewN ?_ _)|(with_reducible refine Kd.C_drew ?_)));(case side2=>exact HC0.out);(case side3=>repeat (first|exact (Kd.C_below HR1.out HB.out)|(with_reducible refine Kd.C_alloc ?_ _)|(with_reducible refine Kd.C_drewN ?_ _)|(with_reducible refine Kd.C_drew ?_)));(case side4=>exact HC1.out);rintro e w25 ⟨v258,rfl,ho0,hb⟩;have n0_:=Aside0.mk (Kd.R_lower ho0 (below_size (by repeat (first|(with_reducible first|exact HB.out|apply below_alloc|apply pw_below_drewN|apply below_drew1|refine below_set ?_ GE252.out)|exact HB.out))));have n1_:=Aside0.mk (blk_below (g:=gb252) (o:= .cells #[.int .i64 a2_0,.int .i64 a2_1,.int .i64 a2_2,.int .i64 a2_3,.int .i64 a2_4] 25 (0,0)) (by (with_reducible repeat (first|refine blk_drewN ?_ _|refine blk_drew ?_|refine blk_alloc ?_ _));exact BK252.out) hb);have n2_:=Aside0.mk (below_step (by repeat (first|(with_reducible first|exact HB.out|apply below_alloc|apply pw_below_drewN|apply below_drew1|refine below_set ?_ GE252.out)|exact HB.out)) hb);clear BK252;clear HB;have HO259:=n0_;have BK252:=n1_;have HB:=n2_;clear n0_ n1_ n2_;(try clear hb);(try clear hb2);(try clear hk);(try clear hi);(try clear ho0))|(go_at_call 13;(with_reducible refine (cluster_Of.calls _ _ l0 t262 _ ?side1 ?side2 A22.out).mono ?_);(case side1=>repeat (first|exact (Kd.C_below HR0.out HB.out)|(with_reducible refine Kd.C_alloc ?_ _)|(with_reducible refine Kd.C_drewN ?_ _)|(with_reducible refine Kd.C_drew ?_)));(case side2=>exact HC0.out);rintro e w26 ⟨v263,rfl,ho0,hb⟩;have n0_:=Aside0.mk (Kd.R_below (by (with_reducible repeat (first|apply Kd.R_alloc|apply Kd.R_drewN|apply Kd.R_drew));exact HO259.out) hb);have n1_:=Aside0.mk (Kd.R_lower ho0 (below_size (by repeat (first|(with_reducible first|exact HB.out|apply below_alloc|apply pw_below_drewN|apply below_drew1|refine below_set ?_ GE252.out)|exact HB.out))));have n2_:=Aside0.mk (blk_below (g:=gb252) (o:= .cells #[.int .i64 a2_0,.int .i64 a2_1,.int .i64 a2_2,.int .i64 a2_3,.int .i64 a2_4] 25 (0,0)) (by (with_reducible repeat (first|refine blk_drewN ?_ _|refine blk_drew ?_|refine blk_alloc ?_ _));exact BK252.out) hb);have n3_:=Aside0.mk (below_step (by repeat (first|(with_reducible first|exact HB.out|apply below_alloc|apply pw_below_drewN|apply below_drew1|refine below_set ?_ GE252.out)|exact HB.out)) hb);clear HO259;clear BK252;clear HB;have HO259:=n0_;have HO264:=n1_;have BK252:=n2_;have HB:=n3_;clear n0_ n1_ n2_ n3_;(try clear hb);(try clear hb2);(try clear hk);(try clear hi);(try clear ho0))))
      (try simp only [Act.put,List.setIfInBounds_toArray,List.set_cons_zero,List.set_cons_succ])
      go_cut [79] (fun v79 wc=> ∃ (kq:Nat) (x79_22:Bool),v79= .bool x79_22∧Aside0 (parquetrylaw19_PlaceOnce.j1 kq a4 t257 t262 x79_22 a2_0 a2_1 a2_2 a2_3 a2_4=some r)∧Aside0 (kq≤k1)∧Aside0 (Kd.R k42 42 wc w.heap.size (fun _=>True) v258 t257)∧Aside0 (Kd.R k40 40 wc w.heap.size (fun _=>True) v263 t262)∧Aside0 (wc.heap[gb252]?=some (.cells #[.int .i64 a2_0,.int .i64 a2_1,.int .i64 a2_2,.int .i64 a2_3,.int .i64 a2_4] 25 (0,0)))∧Aside0 (Below w.heap.size w wc))
      case first => as_aux_lemma =>
       have H:=HC23.out
       clear HC23
       by_cases c27:(t257.length:Int)=a4
       ·
        rw [if_pos c27] at H
        have c27b0:((t257.length:Int)==a4)=true:=beq_iff_eq.mpr c27
        have c27b1:((t257.length:Int) !=a4)=false:=bne_eq_false_iff_eq.mpr c27
        clear c27
        (first|rw [c27b0]|(simp only [i64_w,i32_w];rw [c27b0])|skip)
        have H':=Aside0.mk H
        clear H
        obtain ⟨Ao28,co28,eo28⟩:=Kd.R_slice HO259.out
        subst eo28
        have hcz29_0:w26.cell? ⟨gb252,0,none⟩=some (.int .i64 a2_0):=(blk_cell BK252.out 0).trans rfl
        have hcz29_1:w26.cell? ⟨gb252,1,none⟩=some (.int .i64 a2_1):=(blk_cell BK252.out 1).trans rfl
        have hcz29_2:w26.cell? ⟨gb252,2,none⟩=some (.int .i64 a2_2):=(blk_cell BK252.out 2).trans rfl
        have hcz29_3:w26.cell? ⟨gb252,3,none⟩=some (.int .i64 a2_3):=(blk_cell BK252.out 3).trans rfl
        have hcz29_4:w26.cell? ⟨gb252,4,none⟩=some (.int .i64 a2_4):=(blk_cell BK252.out 4).trans rfl
        have hfz29_0:=blk_frozen BK252.out 0
        have hfz29_1:=blk_frozen BK252.out 1
        have hfz29_2:=blk_frozen BK252.out 2
        have hfz29_3:=blk_frozen BK252.out 3
        have hfz29_4:=blk_frozen BK252.out 4
        obtain ⟨Ao30,co30,eo30⟩:=Kd.R_slice HO264.out
        subst eo30
        go_wp2
        repeat (go_quiet (fail);try go_wp2)
        go_meet
        case rel=>exact ⟨_,(decide (a2_1 > (t262.length:Int))),(by first|rfl|(simp;done)|(simp [*];done)),H',⟨by have:=HK1.out;first|omega|exact Nat.le_refl _⟩,⟨by (with_reducible repeat (first|apply Kd.R_alloc|apply Kd.R_drewN|apply Kd.R_drew));exact HO259.out⟩,⟨by (with_reducible repeat (first|apply Kd.R_alloc|apply Kd.R_drewN|apply Kd.R_drew));exact HO264.out⟩,⟨by (with_reducible repeat (first|refine blk_drewN ?_ _|refine blk_drew ?_|refine blk_alloc ?_ _));exact BK252.out⟩,⟨by repeat (first|(with_reducible first|exact HB.out|apply below_alloc|apply pw_below_drewN|apply below_drew1|refine below_set ?_ GE252.out)|exact HB.out)⟩⟩
       ·
        rw [if_neg c27] at H
        have c27b0:((t257.length:Int)==a4)=false:=beq_eq_false_iff_ne.mpr c27
        have c27b1:((t257.length:Int) !=a4)=true:=bne_iff_ne.mpr c27
        (first|rw [c27b0]|(simp only [i64_w,i32_w];rw [c27b0])|skip)
        have H':=Aside0.mk H
        clear H
        obtain ⟨Ao31,co31,eo31⟩:=Kd.R_slice HO259.out
        subst eo31
        go_wp2
        repeat (go_quiet (fail);try go_wp2)
        go_meet
        case rel=>exact ⟨_,(true),(by first|rfl|(simp;done)|(simp [*];done)),H',⟨by have:=HK1.out;first|omega|exact Nat.le_refl _⟩,⟨by (with_reducible repeat (first|apply Kd.R_alloc|apply Kd.R_drewN|apply Kd.R_drew));exact HO259.out⟩,⟨by (with_reducible repeat (first|apply Kd.R_alloc|apply Kd.R_drewN|apply Kd.R_drew));exact HO264.out⟩,⟨by (with_reducible repeat (first|refine blk_drewN ?_ _|refine blk_drew ?_|refine blk_alloc ?_ _));exact BK252.out⟩,⟨by repeat (first|(with_reducible first|exact HB.out|apply below_alloc|apply pw_below_drewN|apply below_drew1|refine below_set ?_ GE252.out)|exact HB.out)⟩⟩
      case rest => as_aux_lemma =>
       clear HC23
       try clear c2
       try clear q2
       try clear hx2
       try clear p6
       try clear c12
       try clear c12b0
       try clear c13
       try clear c13b0
       try clear c15
       try clear c15b0
       try clear c16
       try clear c16b0
       try clear c17
       try clear c17b0
       try clear c21
       try clear c21b0
       try clear c21b1
       try clear p25
       try clear q25
       try clear hx25
       try clear c27
       try clear c27b0
       try clear c27b1
       try clear hcz24_0
       try clear hcz24_1
       try clear hcz24_2
       try clear hcz24_3
       try clear hcz24_4
       try clear hcz29_0
       try clear hcz29_1
       try clear hcz29_2
       try clear hcz29_3
       try clear hcz29_4
       try clear hfz24_0
       try clear hfz24_1
       try clear hfz24_2
       try clear hfz24_3
       try clear hfz24_4
       try clear hfz29_0
       try clear hfz29_1
       try clear hfz29_2
       try clear hfz29_3
       try clear hfz29_4
       try clear hx254_0
       try clear hx254_1
       try clear hx254_2
       try clear hx255_0
       try clear hx255_1
       try clear hx255_2
       try clear p254
       try clear p255
       try clear q254
       try clear q255
       obtain ⟨kq,x79_22,rfl,HA,HJ22,HO_14,HO_16,BK252,HB⟩:=hcut
       cases kq with
       | zero=>exact absurd HA.out (by simp [parquetrylaw19_PlaceOnce.j1])
       | succ kj22 =>
        have H:=HA.out
        clear HA
        simp only [parquetrylaw19_PlaceOnce.j1] at H
        by_cases c32:x79_22=true
        ·
         subst c32
         have H1:(none)=some r:=by rw [if_pos rfl] at H;exact H
         clear H
         have H:=H1
         clear H1
         cases H
        ·
         replace c32:=Bool.eq_false_iff.mpr c32
         subst c32
         have H1:(if a2_4=1 then (parquetrylaw19_PlaceOnce.j2 kj22 t257 t262 (wrap64 (a4 - 1)) a2_0 a2_1 a2_2 a2_3 a2_4) else (parquetrylaw19_PlaceOnce.j2 kj22 t257 t262 a4 a2_0 a2_1 a2_2 a2_3 a2_4))=some r:=by rw [if_neg (show ¬ (false=true) by decide)] at H;exact H
         clear H
         have H:=H1
         clear H1
         have HC33:=Aside0.mk H
         clear H
         have hcz34_0:wc.cell? ⟨gb252,0,none⟩=some (.int .i64 a2_0):=(blk_cell BK252.out 0).trans rfl
         have hcz34_1:wc.cell? ⟨gb252,1,none⟩=some (.int .i64 a2_1):=(blk_cell BK252.out 1).trans rfl
         have hcz34_2:wc.cell? ⟨gb252,2,none⟩=some (.int .i64 a2_2):=(blk_cell BK252.out 2).trans rfl
         have hcz34_3:wc.cell? ⟨gb252,3,none⟩=some (.int .i64 a2_3):=(blk_cell BK252.out 3).trans rfl
         have hcz34_4:wc.cell? ⟨gb252,4,none⟩=some (.int .i64 a2_4):=(blk_cell BK252.out 4).trans rfl
         have hfz34_0:=blk_frozen BK252.out 0
         have hfz34_1:=blk_frozen BK252.out 1
         have hfz34_2:=blk_frozen BK252.out 2
         have hfz34_3:=blk_frozen BK252.out 3
         have hfz34_4:=blk_frozen BK252.out 4
         go_upto_if 83 with (fail)
         repeat (go_quiet (fail);go_upto_if 83 with (fail))
         go_cut [17] (fun v17 wc=> ∃ (kq:Nat) (x17_32:Int),v17= .int .i64 x17_32∧Aside0 (parquetrylaw19_PlaceOnce.j2 kq t257 t262 x17_32 a2_0 a2_1 a2_2 a2_3 a2_4=some r)∧Aside0 (kq≤kj22)∧Aside0 (Kd.R k42 42 wc w.heap.size (fun _=>True) v258 t257)∧Aside0 (Kd.R k40 40 wc w.heap.size (fun _=>True) v263 t262)∧Aside0 (wc.heap[gb252]?=some (.cells #[.int .i64 a2_0,.int .i64 a2_1,.int .i64 a2_2,.int .i64 a2_3,.int .i64 a2_4] 25 (0,0)))∧Aside0 (Below w.heap.size w wc))
         case first => as_aux_lemma =>
          have H:=HC33.out
          clear HC33
          by_cases c35:a2_4=1
          ·
           rw [if_pos c35] at H
           have c35b0:(a2_4==1)=true:=beq_iff_eq.mpr c35
           have c35b1:(a2_4 !=1)=false:=bne_eq_false_iff_eq.mpr c35
           clear c35
           (first|rw [c35b0]|(simp only [i64_w,i32_w];rw [c35b0])|skip)
           have H':=Aside0.mk H
           clear H
           go_wp2
           repeat (go_quiet (fail);try go_wp2)
           go_meet
           case rel=>exact ⟨_,(wrap64 (a4 - 1)),(by first|rfl|(simp;done)|(simp [*];done)),H',⟨by have:=HK1.out;have:=HJ22.out;first|omega|exact Nat.le_refl _⟩,⟨by (with_reducible repeat (first|apply Kd.R_alloc|apply Kd.R_drewN|apply Kd.R_drew));exact HO_14.out⟩,⟨by (with_reducible repeat (first|apply Kd.R_alloc|apply Kd.R_drewN|apply Kd.R_drew));exact HO_16.out⟩,⟨by (with_reducible repeat (first|refine blk_drewN ?_ _|refine blk_drew ?_|refine blk_alloc ?_ _));exact BK252.out⟩,⟨by repeat (first|(with_reducible first|exact HB.out|apply below_alloc|apply pw_below_drewN|apply below_drew1|refine below_set ?_ GE252.out)|exact HB.out)⟩⟩
          ·
           rw [if_neg c35] at H
           have c35b0:(a2_4==1)=false:=beq_eq_false_iff_ne.mpr c35
           have c35b1:(a2_4 !=1)=true:=bne_iff_ne.mpr c35
           (first|rw [c35b0]|(simp only [i64_w,i32_w];rw [c35b0])|skip)
           have H':=Aside0.mk H
           clear H
           go_wp2
           repeat (go_quiet (fail);try go_wp2)
           go_meet
           case rel=>exact ⟨_,(a4),(by first|rfl|(simp;done)|(simp [*];done)),H',⟨by have:=HK1.out;have:=HJ22.out;first|omega|exact Nat.le_refl _⟩,⟨by (with_reducible repeat (first|apply Kd.R_alloc|apply Kd.R_drewN|apply Kd.R_drew));exact HO_14.out⟩,⟨by (with_reducible repeat (first|apply Kd.R_alloc|apply Kd.R_drewN|apply Kd.R_drew));exact HO_16.out⟩,⟨by (with_reducible repeat (first|refine blk_drewN ?_ _|refine blk_drew ?_|refine blk_alloc ?_ _));exact BK252.out⟩,⟨by repeat (first|(with_reducible first|exact HB.out|apply below_alloc|apply pw_below_drewN|apply below_drew1|refine below_set ?_ GE252.out)|exact HB.out)⟩⟩
         case rest => as_aux_lemma =>
          clear HC33
          try clear c3
          try clear c32
          try clear c35
          try clear c35b0
          try clear c35b1
          try clear hcz34_0
          try clear hcz34_1
          try clear hcz34_2
          try clear hcz34_3
          try clear hcz34_4
          try clear hfz34_0
          try clear hfz34_1
          try clear hfz34_2
          try clear hfz34_3
          try clear hfz34_4
          obtain ⟨kq,x17_32,rfl,HA,HJ32,HO_14,HO_16,BK252,HB⟩:=hcut
          cases kq with
          | zero=>exact absurd HA.out (by simp [parquetrylaw19_PlaceOnce.j2])
          | succ kj32 =>
           have H:=HA.out
           clear HA
           simp only [parquetrylaw19_PlaceOnce.j2] at H
           have H':=Aside0.mk H
           clear H
           have hcz36_0:wc.cell? ⟨gb252,0,none⟩=some (.int .i64 a2_0):=(blk_cell BK252.out 0).trans rfl
           have hcz36_1:wc.cell? ⟨gb252,1,none⟩=some (.int .i64 a2_1):=(blk_cell BK252.out 1).trans rfl
           have hcz36_2:wc.cell? ⟨gb252,2,none⟩=some (.int .i64 a2_2):=(blk_cell BK252.out 2).trans rfl
           have hcz36_3:wc.cell? ⟨gb252,3,none⟩=some (.int .i64 a2_3):=(blk_cell BK252.out 3).trans rfl
           have hcz36_4:wc.cell? ⟨gb252,4,none⟩=some (.int .i64 a2_4):=(blk_cell BK252.out 4).trans rfl
           have hfz36_0:=blk_frozen BK252.out 0
           have hfz36_1:=blk_frozen BK252.out 1
           have hfz36_2:=blk_frozen BK252.out 2
           have hfz36_3:=blk_frozen BK252.out 3
           have hfz36_4:=blk_frozen BK252.out 4
           go_wp2
           repeat (go_quiet (fail);try go_wp2)
           go_loopg [17,18] kj32 (fun kq v17 v18 w'=> ∃ (x17_4:Int) (x18_4:Int),v17= .int .i64 x17_4∧v18= .int .i64 x18_4∧Aside0 (parquetrylaw19_PlaceOnce.l1 kq t257 t262 x17_4 x18_4 a2_0 a2_1 a2_2 a2_3 a2_4=some r)∧Aside0 (kq≤kj32)∧Aside0 (Kd.R k42 42 w' w.heap.size (fun _=>True) v258 t257)∧Aside0 (Kd.R k40 40 w' w.heap.size (fun _=>True) v263 t262)∧Aside0 (w'.heap[gb252]?=some (.cells #[.int .i64 a2_0,.int .i64 a2_1,.int .i64 a2_2,.int .i64 a2_3,.int .i64 a2_4] 25 (0,0)))∧Aside0 (Below w.heap.size w w'))
           case atStart=>exact ⟨(x17_32),(a2_0),(by first|rfl|(simp;done)|(simp [*];done)),(by first|rfl|(simp;done)|(simp [*];done)),H',⟨Nat.le_refl _⟩,⟨by (with_reducible repeat (first|apply Kd.R_alloc|apply Kd.R_drewN|apply Kd.R_drew));exact HO_14.out⟩,⟨by (with_reducible repeat (first|apply Kd.R_alloc|apply Kd.R_drewN|apply Kd.R_drew));exact HO_16.out⟩,⟨by (with_reducible repeat (first|refine blk_drewN ?_ _|refine blk_drew ?_|refine blk_alloc ?_ _));exact BK252.out⟩,⟨by repeat (first|(with_reducible first|exact HB.out|apply below_alloc|apply pw_below_drewN|apply below_drew1|refine below_set ?_ GE252.out)|exact HB.out)⟩⟩
           case round => as_aux_lemma =>
            clear H'
            try clear hcz36_0
            try clear hcz36_1
            try clear hcz36_2
            try clear hcz36_3
            try clear hcz36_4
            try clear hfz36_0
            try clear hfz36_1
            try clear hfz36_2
            try clear hfz36_3
            try clear hfz36_4
            obtain ⟨x17_4,x18_4,rfl,rfl,HA,HK4,HO_14,HO_16,BK252,HB⟩:=hrel
            cases gk with
            | zero=>exact absurd HA.out (by simp [parquetrylaw19_PlaceOnce.l1])
            | succ k4 =>
             have H:=HA.out
             clear HA
             simp only [parquetrylaw19_PlaceOnce.l1] at H
             by_cases c37:x18_4 < a2_2
             ·
              rw [if_pos c37] at H
              have c37b0:decide (x18_4 < a2_2)=true:=decide_eq_true c37
              clear c37
              by_cases c38:0≤x18_4
              ·
               rw [if_pos c38] at H
               have c38b0:decide (0≤x18_4)=true:=decide_eq_true c38
               clear c38
               by_cases c39:x18_4 < (t262.length:Int)
               ·
                rw [if_pos c39] at H
                have c39b0:decide (x18_4 < (t262.length:Int))=true:=decide_eq_true c39
                clear c39
                have H':=Aside0.mk H
                clear H
                have hcz40_0:wr.cell? ⟨gb252,0,none⟩=some (.int .i64 a2_0):=(blk_cell BK252.out 0).trans rfl
                have hcz40_1:wr.cell? ⟨gb252,1,none⟩=some (.int .i64 a2_1):=(blk_cell BK252.out 1).trans rfl
                have hcz40_2:wr.cell? ⟨gb252,2,none⟩=some (.int .i64 a2_2):=(blk_cell BK252.out 2).trans rfl
                have hcz40_3:wr.cell? ⟨gb252,3,none⟩=some (.int .i64 a2_3):=(blk_cell BK252.out 3).trans rfl
                have hcz40_4:wr.cell? ⟨gb252,4,none⟩=some (.int .i64 a2_4):=(blk_cell BK252.out 4).trans rfl
                have hfz40_0:=blk_frozen BK252.out 0
                have hfz40_1:=blk_frozen BK252.out 1
                have hfz40_2:=blk_frozen BK252.out 2
                have hfz40_3:=blk_frozen BK252.out 3
                have hfz40_4:=blk_frozen BK252.out 4
                obtain ⟨Ao41,co41,eo41⟩:=Kd.R_slice HO_16.out
                subst eo41
                have p265:0≤(x18_4:Int):=of_decide_eq_true (by first|(with_reducible assumption)|assumption)
                have q265:x18_4 < (t262.length:Int):=of_decide_eq_true (by first|(with_reducible assumption)|assumption)
                obtain ⟨ad265,e265,hx265_0,hx265_1,hx265_2,hx265_3,hx265_4,hx265_5⟩:=at_T40 (Kd.R_reads' HO_16.out).2.2 x18_4 p265 q265
                cases e265
                replace p265:=eq_true p265
                replace q265:=eq_true q265
                go_wp2
                repeat (go_quiet (fail);try go_wp2)
                go_roundg k4
                case measure=>have:=HK1.out;have:=HJ22.out;have:=HJ32.out;have:=HK4.out;omega
                case rel=>exact ⟨(wrap64 (x17_4 - ((rd_T40 t262 x18_4).f4))),(wrap64 (x18_4+1)),(by first|rfl|(simp;done)|(simp [*];done)),(by first|rfl|(simp;done)|(simp [*];done)),H',⟨by have:=HK1.out;have:=HJ22.out;have:=HJ32.out;have:=HK4.out;omega⟩,⟨by (with_reducible repeat (first|apply Kd.R_alloc|apply Kd.R_drewN|apply Kd.R_drew));exact HO_14.out⟩,⟨by (with_reducible repeat (first|apply Kd.R_alloc|apply Kd.R_drewN|apply Kd.R_drew));exact HO_16.out⟩,⟨by (with_reducible repeat (first|refine blk_drewN ?_ _|refine blk_drew ?_|refine blk_alloc ?_ _));exact BK252.out⟩,⟨by repeat (first|(with_reducible first|exact HB.out|apply below_alloc|apply pw_below_drewN|apply below_drew1|refine below_set ?_ GE252.out)|exact HB.out)⟩⟩
               ·
                rw [if_neg c39] at H
                exact absurd H (by simp)
              ·
               rw [if_neg c38] at H
               exact absurd H (by simp)
             ·
              rw [if_neg c37] at H
              have c37b0:decide (x18_4 < a2_2)=false:=decide_eq_false c37
              clear c37
              by_cases c42:x17_4 < 0
              ·
               rw [if_pos c42] at H
               have c42b0:decide (x17_4 < 0)=true:=decide_eq_true c42
               clear c42
               replace H:=Option.bind_eq_some_iff.mp H
               obtain ⟨t266,A430,H⟩:=H
               replace H:(some t266)=some r:=H
               have A43:=Aside0.mk A430
               clear A430
               obtain rfl:=Option.some.inj H
               have hcz44_0:wr.cell? ⟨gb252,0,none⟩=some (.int .i64 a2_0):=(blk_cell BK252.out 0).trans rfl
               have hcz44_1:wr.cell? ⟨gb252,1,none⟩=some (.int .i64 a2_1):=(blk_cell BK252.out 1).trans rfl
               have hcz44_2:wr.cell? ⟨gb252,2,none⟩=some (.int .i64 a2_2):=(blk_cell BK252.out 2).trans rfl
               have hcz44_3:wr.cell? ⟨gb252,3,none⟩=some (.int .i64 a2_3):=(blk_cell BK252.out 3).trans rfl
               have hcz44_4:wr.cell? ⟨gb252,4,none⟩=some (.int .i64 a2_4):=(blk_cell BK252.out 4).trans rfl
               have hfz44_0:=blk_frozen BK252.out 0
               have hfz44_1:=blk_frozen BK252.out 1
               have hfz44_2:=blk_frozen BK252.out 2
               have hfz44_3:=blk_frozen BK252.out 3
               have hfz44_4:=blk_frozen BK252.out 4
               go_wp2_with (first|(go_at_call 7;(with_reducible refine (parquetrylaw19_awake.calls k4 t266 _ A43.out).mono ?_);rintro e w45 ⟨rfl,hb⟩;have n0_:=Aside0.mk (Kd.R_below (by (with_reducible repeat (first|apply Kd.R_alloc|apply Kd.R_drewN|apply Kd.R_drew));exact HO_14.out) hb);have n1_:=Aside0.mk (Kd.R_below (by (with_reducible repeat (first|apply Kd.R_alloc|apply Kd.R_drewN|apply Kd.R_drew));exact HO_16.out) hb);have n2_:=Aside0.mk (blk_below (g:=gb252) (o:= .cells #[.int .i64 a2_0,.int .i64 a2_1,.int .i64 a2_2,.int .i64 a2_3,.int .i64 a2_4] 25 (0,0)) (by (with_reducible repeat (first|refine blk_drewN ?_ _|refine blk_drew ?_|refine blk_alloc ?_ _));exact BK252.out) hb);have n3_:=Aside0.mk (below_step (by repeat (first|(with_reducible first|exact HB.out|apply below_alloc|apply pw_below_drewN|apply below_drew1|refine below_set ?_ GE252.out)|exact HB.out)) hb);clear HO_14;clear HO_16;clear BK252;clear HB;have HO_14:=n0_;have HO_16:=n1_;have BK252:=n2_;have HB:=n3_;clear n0_ n1_ n2_ n3_;(try clear hb);(try clear hb2);(try clear hk);(try clear hi)))
               repeat (go_quiet (first|(go_at_call 7;(with_reducible refine (parquetrylaw19_awake.calls k4 t266 _ A43.out).mono ?_);rintro e w45 ⟨rfl,hb⟩;have n0_:=Aside0.mk (Kd.R_below (by (with_reducible repeat (first|apply Kd.R_alloc|apply Kd.R_drewN|apply Kd.R_drew));exact HO_14.out) hb);have n1_:=Aside0.mk (Kd.R_below (by (with_reducible repeat (first|apply Kd.R_alloc|apply Kd.R_drewN|apply Kd.R_drew));exact HO_16.out) hb);have n2_:=Aside0.mk (blk_below (g:=gb252) (o:= .cells #[.int .i64 a2_0,.int .i64 a2_1,.int .i64 a2_2,.int .i64 a2_3,.int .i64 a2_4] 25 (0,0)) (by (with_reducible repeat (first|refine blk_drewN ?_ _|refine blk_drew ?_|refine blk_alloc ?_ _));exact BK252.out) hb);have n3_:=Aside0.mk (below_step (by repeat (first|(with_reducible first|exact HB.out|apply below_alloc|apply pw_below_drewN|apply below_drew1|refine below_set ?_ GE252.out)|exact HB.out)) hb);clear HO_14;clear HO_16;clear BK252;clear HB;have HO_14:=n0_;have HO_16:=n1_;have BK252:=n2_;have HB:=n3_;clear n0_ n1_ n2_ n3_;(try clear hb);(try clear hb2);(try clear hk);(try clear hi)));try go_wp2_with (first|(go_at_call 7;(with_reducible refine (parquetrylaw19_awake.calls k4 t266 _ A43.out).mono ?_);rintro e w45 ⟨rfl,hb⟩;have n0_:=Aside0.mk (Kd.R_below (by (with_reducible repeat (first|apply Kd.R_alloc|apply Kd.R_drewN|apply Kd.R_drew));exact HO_14.out) hb);have n1_:=Aside0.mk (Kd.R_below (by (with_reducible repeat (first|apply Kd.R_alloc|apply Kd.R_drewN|apply Kd.R_drew));exact HO_16.out) hb);have n2_:=Aside0.mk (blk_below (g:=gb252) (o:= .cells #[.int .i64 a2_0,.int .i64 a2_1,.int .i64 a2_2,.int .i64 a2_3,.int .i64 a2_4] 25 (0,0)) (by (with_reducible repeat (first|refine blk_drewN ?_ _|refine blk_drew ?_|refine blk_alloc ?_ _));exact BK252.out) hb);have n3_:=Aside0.mk (below_step (by repeat (first|(with_reducible first|exact HB.out|apply below_alloc|apply pw_below_drewN|apply below_drew1|refine below_set ?_ GE252.out)|exact HB.out)) hb);clear HO_14;clear HO_16;clear BK252;clear HB;have HO_14:=n0_;have HO_16:=n1_;have BK252:=n2_;have HB:=n3_;clear n0_ n1_ n2_ n3_;(try clear hb);(try clear hb2);(try clear hk);(try clear hi))))
               go_ret
               exact ⟨by first|rfl|(simp [errW_none,errW_some] <;> rfl)|(simp [*,errW_none,errW_some] <;> rfl),by repeat (first|(with_reducible first|exact HB.out|apply below_alloc|apply pw_below_drewN|apply below_drew1|refine below_set ?_ GE252.out)|exact HB.out)⟩
              ·
               rw [if_neg c42] at H
               have c42b0:decide (x17_4 < 0)=false:=decide_eq_false c42
               clear c42
               have H':=Aside0.mk H
               clear H
               have hcz46_0:wr.cell? ⟨gb252,0,none⟩=some (.int .i64 a2_0):=(blk_cell BK252.out 0).trans rfl
               have hcz46_1:wr.cell? ⟨gb252,1,none⟩=some (.int .i64 a2_1):=(blk_cell BK252.out 1).trans rfl
               have hcz46_2:wr.cell? ⟨gb252,2,none⟩=some (.int .i64 a2_2):=(blk_cell BK252.out 2).trans rfl
               have hcz46_3:wr.cell? ⟨gb252,3,none⟩=some (.int .i64 a2_3):=(blk_cell BK252.out 3).trans rfl
               have hcz46_4:wr.cell? ⟨gb252,4,none⟩=some (.int .i64 a2_4):=(blk_cell BK252.out 4).trans rfl
               have hfz46_0:=blk_frozen BK252.out 0
               have hfz46_1:=blk_frozen BK252.out 1
               have hfz46_2:=blk_frozen BK252.out 2
               have hfz46_3:=blk_frozen BK252.out 3
               have hfz46_4:=blk_frozen BK252.out 4
               go_wp2
               repeat (go_quiet (fail);try go_wp2)
               go_loopg [19,20,21] k4 (fun kq v19 v20 v21 w'=> ∃ (x19_5:Int) (x20_5:Int) (x21_5:Int),v19= .int .i64 x19_5∧v20= .int .i64 x20_5∧v21= .int .i64 x21_5∧Aside0 (parquetrylaw19_PlaceOnce.l2 kq t257 t262 x19_5 x20_5 x21_5 a2_0 a2_1 a2_2 a2_3 a2_4=some r)∧Aside0 (kq≤k4)∧Aside0 (Kd.R k42 42 w' w.heap.size (fun _=>True) v258 t257)∧Aside0 (Kd.R k40 40 w' w.heap.size (fun _=>True) v263 t262)∧Aside0 (w'.heap[gb252]?=some (.cells #[.int .i64 a2_0,.int .i64 a2_1,.int .i64 a2_2,.int .i64 a2_3,.int .i64 a2_4] 25 (0,0)))∧Aside0 (Below w.heap.size w w'))
               case atStart=>exact ⟨(0),(0),(0),(by first|rfl|(simp;done)|(simp [*];done)),(by first|rfl|(simp;done)|(simp [*];done)),(by first|rfl|(simp;done)|(simp [*];done)),H',⟨Nat.le_refl _⟩,⟨by (with_reducible repeat (first|apply Kd.R_alloc|apply Kd.R_drewN|apply Kd.R_drew));exact HO_14.out⟩,⟨by (with_reducible repeat (first|apply Kd.R_alloc|apply Kd.R_drewN|apply Kd.R_drew));exact HO_16.out⟩,⟨by (with_reducible repeat (first|refine blk_drewN ?_ _|refine blk_drew ?_|refine blk_alloc ?_ _));exact BK252.out⟩,⟨by repeat (first|(with_reducible first|exact HB.out|apply below_alloc|apply pw_below_drewN|apply below_drew1|refine below_set ?_ GE252.out)|exact HB.out)⟩⟩
               case round => as_aux_lemma =>
                clear H'
                try clear p26
                try clear q26
                try clear hx26
                try clear c37
                try clear c37b0
                try clear c38
                try clear c38b0
                try clear c39
                try clear c39b0
                try clear c42
                try clear c42b0
                try clear hcz40_0
                try clear hcz40_1
                try clear hcz40_2
                try clear hcz40_3
                try clear hcz40_4
                try clear hcz44_0
                try clear hcz44_1
                try clear hcz44_2
                try clear hcz44_3
                try clear hcz44_4
                try clear hcz46_0
                try clear hcz46_1
                try clear hcz46_2
                try clear hcz46_3
                try clear hcz46_4
                try clear hfz40_0
                try clear hfz40_1
                try clear hfz40_2
                try clear hfz40_3
                try clear hfz40_4
                try clear hfz44_0
                try clear hfz44_1
                try clear hfz44_2
                try clear hfz44_3
                try clear hfz44_4
                try clear hfz46_0
                try clear hfz46_1
                try clear hfz46_2
                try clear hfz46_3
                try clear hfz46_4
                try clear hx265_0
                try clear hx265_1
                try clear hx265_2
                try clear hx265_3
                try clear hx265_4
                try clear hx265_5
                try clear p265
                try clear q265
                obtain ⟨x19_5,x20_5,x21_5,rfl,rfl,rfl,HA,HK5,HO_14,HO_16,BK252,HB⟩:=hrel
                cases gk with
                | zero=>exact absurd HA.out (by simp [parquetrylaw19_PlaceOnce.l2])
                | succ k5 =>
                 have H:=HA.out
                 clear HA
                 simp only [parquetrylaw19_PlaceOnce.l2] at H
                 by_cases c47:x21_5 < (t257.length:Int)
                 ·
                  rw [if_pos c47] at H
                  have c47b0:decide (x21_5 < (t257.length:Int))=true:=decide_eq_true c47
                  clear c47
                  by_cases c48:0≤x21_5
                  ·
                   rw [if_pos c48] at H
                   have c48b0:decide (0≤x21_5)=true:=decide_eq_true c48
                   clear c48
                   by_cases c49:((rd_T42 t257 x21_5).f0)=4
                   ·
                    rw [if_pos c49] at H
                    have c49b0:(((rd_T42 t257 x21_5).f0)==4)=true:=beq_iff_eq.mpr c49
                    have c49b1:(((rd_T42 t257 x21_5).f0) !=4)=false:=bne_eq_false_iff_eq.mpr c49
                    clear c49
                    have H':=Aside0.mk H
                    clear H
                    obtain ⟨Ao50,co50,eo50⟩:=Kd.R_slice HO_14.out
                    subst eo50
                    have p267:0≤(x21_5:Int):=of_decide_eq_true (by first|(with_reducible assumption)|assumption)
                    have q267:x21_5 < (t257.length:Int):=of_decide_eq_true (by first|(with_reducible assumption)|assumption)
                    obtain ⟨ad267,e267,hx267_0,hx267_1,hx267_2,hx267_3,hx267_4,hx267_5⟩:=at_T42 (Kd.R_reads' HO_14.out).2.2 x21_5 p267 q267
                    cases e267
                    replace p267:=eq_true p267
                    replace q267:=eq_true q267
                    go_wp2
                    repeat (go_quiet (fail);try go_wp2)
                    go_roundg k5
                    case measure=>have:=HK1.out;have:=HJ22.out;have:=HJ32.out;have:=HK4.out;have:=HK5.out;omega
                    case rel=>exact ⟨(wrap64 (x19_5+1)),(x20_5),(wrap64 (x21_5+1)),(by first|rfl|(simp;done)|(simp [*];done)),(by first|rfl|(simp;done)|(simp [*];done)),(by first|rfl|(simp;done)|(simp [*];done)),H',⟨by have:=HK1.out;have:=HJ22.out;have:=HJ32.out;have:=HK4.out;have:=HK5.out;omega⟩,⟨by (with_reducible repeat (first|apply Kd.R_alloc|apply Kd.R_drewN|apply Kd.R_drew));exact HO_14.out⟩,⟨by (with_reducible repeat (first|apply Kd.R_alloc|apply Kd.R_drewN|apply Kd.R_drew));exact HO_16.out⟩,⟨by (with_reducible repeat (first|refine blk_drewN ?_ _|refine blk_drew ?_|refine blk_alloc ?_ _));exact BK252.out⟩,⟨by repeat (first|(with_reducible first|exact HB.out|apply below_alloc|apply pw_below_drewN|apply below_drew1|refine below_set ?_ GE252.out)|exact HB.out)⟩⟩
                   ·
                    rw [if_neg c49] at H
                    have c49b0:(((rd_T42 t257 x21_5).f0)==4)=false:=beq_eq_false_iff_ne.mpr c49
                    have c49b1:(((rd_T42 t257 x21_5).f0) !=4)=true:=bne_iff_ne.mpr c49
                    by_cases c51:((rd_T42 t257 x21_5).f0)=3
                    ·
                     rw [if_pos c51] at H
                     have c51b0:(((rd_T42 t257 x21_5).f0)==3)=true:=beq_iff_eq.mpr c51
                     have c51b1:(((rd_T42 t257 x21_5).f0) !=3)=false:=bne_eq_false_iff_eq.mpr c51
                     clear c51
                     have H':=Aside0.mk H
                     clear H
                     obtain ⟨Ao52,co52,eo52⟩:=Kd.R_slice HO_14.out
                     subst eo52
                     have p267:0≤(x21_5:Int):=of_decide_eq_true (by first|(with_reducible assumption)|assumption)
                     have q267:x21_5 < (t257.length:Int):=of_decide_eq_true (by first|(with_reducible assumption)|assumption)
                     obtain ⟨ad267,e267,hx267_0,hx267_1,hx267_2,hx267_3,hx267_4,hx267_5⟩:=at_T42 (Kd.R_reads' HO_14.out).2.2 x21_5 p267 q267
                     cases e267
                     replace p267:=eq_true p267
                     replace q267:=eq_true q267
                     go_wp2
                     repeat (go_quiet (fail);try go_wp2)
                     go_roundg k5
                     case measure=>have:=HK1.out;have:=HJ22.out;have:=HJ32.out;have:=HK4.out;have:=HK5.out;omega
                     case rel=>exact ⟨(x19_5),(wrap64 (x20_5+1)),(wrap64 (x21_5+1)),(by first|rfl|(simp;done)|(simp [*];done)),(by first|rfl|(simp;done)|(simp [*];done)),(by first|rfl|(simp;done)|(simp [*];done)),H',⟨by have:=HK1.out;have:=HJ22.out;have:=HJ32.out;have:=HK4.out;have:=HK5.out;omega⟩,⟨by (with_reducible repeat (first|apply Kd.R_alloc|apply Kd.R_drewN|apply Kd.R_drew));exact HO_14.out⟩,⟨by (with_reducible repeat (first|apply Kd.R_alloc|apply Kd.R_drewN|apply Kd.R_drew));exact HO_16.out⟩,⟨by (with_reducible repeat (first|refine blk_drewN ?_ _|refine blk_drew ?_|refine blk_alloc ?_ _));exact BK252.out⟩,⟨by repeat (first|(with_reducible first|exact HB.out|apply below_alloc|apply pw_below_drewN|apply below_drew1|refine below_set ?_ GE252.out)|exact HB.out)⟩⟩
                    ·
                     rw [if_neg c51] at H
                     have c51b0:(((rd_T42 t257 x21_5).f0)==3)=false:=beq_eq_false_iff_ne.mpr c51
                     have c51b1:(((rd_T42 t257 x21_5).f0) !=3)=true:=bne_iff_ne.mpr c51
                     by_cases c53:((rd_T42 t257 x21_5).f0)=2
                     ·
                      rw [if_pos c53] at H
                      have c53b0:(((rd_T42 t257 x21_5).f0)==2)=true:=beq_iff_eq.mpr c53
                      have c53b1:(((rd_T42 t257 x21_5).f0) !=2)=false:=bne_eq_false_iff_eq.mpr c53
                      clear c53
                      have H':=Aside0.mk H
                      clear H
                      obtain ⟨Ao54,co54,eo54⟩:=Kd.R_slice HO_14.out
                      subst eo54
                      have p267:0≤(x21_5:Int):=of_decide_eq_true (by first|(with_reducible assumption)|assumption)
                      have q267:x21_5 < (t257.length:Int):=of_decide_eq_true (by first|(with_reducible assumption)|assumption)
                      obtain ⟨ad267,e267,hx267_0,hx267_1,hx267_2,hx267_3,hx267_4,hx267_5⟩:=at_T42 (Kd.R_reads' HO_14.out).2.2 x21_5 p267 q267
                      cases e267
                      replace p267:=eq_true p267
                      replace q267:=eq_true q267
                      go_wp2
                      repeat (go_quiet (fail);try go_wp2)
                      go_roundg k5
                      case measure=>have:=HK1.out;have:=HJ22.out;have:=HJ32.out;have:=HK4.out;have:=HK5.out;omega
                      case rel=>exact ⟨(x19_5),(x20_5),(wrap64 (x21_5+1)),(by first|rfl|(simp;done)|(simp [*];done)),(by first|rfl|(simp;done)|(simp [*];done)),(by first|rfl|(simp;done)|(simp [*];done)),H',⟨by have:=HK1.out;have:=HJ22.out;have:=HJ32.out;have:=HK4.out;have:=HK5.out;omega⟩,⟨by (with_reducible repeat (first|apply Kd.R_alloc|apply Kd.R_drewN|apply Kd.R_drew));exact HO_14.out⟩,⟨by (with_reducible repeat (first|apply Kd.R_alloc|apply Kd.R_drewN|apply Kd.R_drew));exact HO_16.out⟩,⟨by (with_reducible repeat (first|refine blk_drewN ?_ _|refine blk_drew ?_|refine blk_alloc ?_ _));exact BK252.out⟩,⟨by repeat (first|(with_reducible first|exact HB.out|apply below_alloc|apply pw_below_drewN|apply below_drew1|refine below_set ?_ GE252.out)|exact HB.out)⟩⟩
                     ·
                      rw [if_neg c53] at H
                      have c53b0:(((rd_T42 t257 x21_5).f0)==2)=false:=beq_eq_false_iff_ne.mpr c53
                      have c53b1:(((rd_T42 t257 x21_5).f0) !=2)=true:=bne_iff_ne.mpr c53
                      cases H
                  ·
                   rw [if_neg c48] at H
                   exact absurd H (by simp)
                 ·
                  rw [if_neg c47] at H
                  have c47b0:decide (x21_5 < (t257.length:Int))=false:=decide_eq_false c47
                  clear c47
                  have H':=Aside0.mk H
                  clear H
                  obtain ⟨Ao56,co56,eo56⟩:=Kd.R_slice HO_14.out
                  subst eo56
                  have hcz57_0:wr.cell? ⟨gb252,0,none⟩=some (.int .i64 a2_0):=(blk_cell BK252.out 0).trans rfl
                  have hcz57_1:wr.cell? ⟨gb252,1,none⟩=some (.int .i64 a2_1):=(blk_cell BK252.out 1).trans rfl
                  have hcz57_2:wr.cell? ⟨gb252,2,none⟩=some (.int .i64 a2_2):=(blk_cell BK252.out 2).trans rfl
                  have hcz57_3:wr.cell? ⟨gb252,3,none⟩=some (.int .i64 a2_3):=(blk_cell BK252.out 3).trans rfl
                  have hcz57_4:wr.cell? ⟨gb252,4,none⟩=some (.int .i64 a2_4):=(blk_cell BK252.out 4).trans rfl
                  have hfz57_0:=blk_frozen BK252.out 0
                  have hfz57_1:=blk_frozen BK252.out 1
                  have hfz57_2:=blk_frozen BK252.out 2
                  have hfz57_3:=blk_frozen BK252.out 3
                  have hfz57_4:=blk_frozen BK252.out 4
                  go_wp2
                  repeat (go_quiet (fail);try go_wp2)
                  go_loopg [19,22] k5 (fun kq v19 v22 w'=> ∃ (x19_6:Int) (x22_6:Int),v19= .int .i64 x19_6∧v22= .int .i64 x22_6∧Aside0 (parquetrylaw19_PlaceOnce.l3 kq t257 t262 x19_6 x20_5 x22_6 a2_0 a2_1 a2_2 a2_3 a2_4=some r)∧Aside0 (kq≤k5)∧Aside0 (Kd.R k42 42 w' w.heap.size (fun _=>True) (.slice Ao56 t257.length co56) t257)∧Aside0 (Kd.R k40 40 w' w.heap.size (fun _=>True) v263 t262)∧Aside0 (w'.heap[gb252]?=some (.cells #[.int .i64 a2_0,.int .i64 a2_1,.int .i64 a2_2,.int .i64 a2_3,.int .i64 a2_4] 25 (0,0)))∧Aside0 (Below w.heap.size w w'))
                  case atStart=>exact ⟨(x19_5),(a2_0),(by first|rfl|(simp;done)|(simp [*];done)),(by first|rfl|(simp;done)|(simp [*];done)),H',⟨Nat.le_refl _⟩,⟨by (with_reducible repeat (first|apply Kd.R_alloc|apply Kd.R_drewN|apply Kd.R_drew));exact HO_14.out⟩,⟨by (with_reducible repeat (first|apply Kd.R_alloc|apply Kd.R_drewN|apply Kd.R_drew));exact HO_16.out⟩,⟨by (with_reducible repeat (first|refine blk_drewN ?_ _|refine blk_drew ?_|refine blk_alloc ?_ _));exact BK252.out⟩,⟨by repeat (first|(with_reducible first|exact HB.out|apply below_alloc|apply pw_below_drewN|apply below_drew1|refine below_set ?_ GE252.out)|exact HB.out)⟩⟩
                  case round => as_aux_lemma =>
                   clear H'
                   try clear c5
                   try clear c47
                   try clear c47b0
                   try clear c48
                   try clear c48b0
                   try clear c49
                   try clear c49b0
                   try clear c49b1
                   try clear c51
                   try clear c51b0
                   try clear c51b1
                   try clear c53
                   try clear c53b0
                   try clear c53b1
                   try clear hcz57_0
                   try clear hcz57_1
                   try clear hcz57_2
                   try clear hcz57_3
                   try clear hcz57_4
                   try clear hfz57_0
                   try clear hfz57_1
                   try clear hfz57_2
                   try clear hfz57_3
                   try clear hfz57_4
                   try clear hx267_0
                   try clear hx267_1
                   try clear hx267_2
                   try clear hx267_3
                   try clear hx267_4
                   try clear hx267_5
                   try clear p267
                   try clear q267
                   obtain ⟨x19_6,x22_6,rfl,rfl,HA,HK6,HO_14,HO_16,BK252,HB⟩:=hrel
                   cases gk with
                   | zero=>exact absurd HA.out (by simp [parquetrylaw19_PlaceOnce.l3])
                   | succ k6 =>
                    have H:=HA.out
                    clear HA
                    simp only [parquetrylaw19_PlaceOnce.l3] at H
                    by_cases c58:x22_6 < a2_2
                    ·
                     rw [if_pos c58] at H
                     have c58b0:decide (x22_6 < a2_2)=true:=decide_eq_true c58
                     clear c58
                     have H':=Aside0.mk H
                     clear H
                     have hcz59_0:wr.cell? ⟨gb252,0,none⟩=some (.int .i64 a2_0):=(blk_cell BK252.out 0).trans rfl
                     have hcz59_1:wr.cell? ⟨gb252,1,none⟩=some (.int .i64 a2_1):=(blk_cell BK252.out 1).trans rfl
                     have hcz59_2:wr.cell? ⟨gb252,2,none⟩=some (.int .i64 a2_2):=(blk_cell BK252.out 2).trans rfl
                     have hcz59_3:wr.cell? ⟨gb252,3,none⟩=some (.int .i64 a2_3):=(blk_cell BK252.out 3).trans rfl
                     have hcz59_4:wr.cell? ⟨gb252,4,none⟩=some (.int .i64 a2_4):=(blk_cell BK252.out 4).trans rfl
                     have hfz59_0:=blk_frozen BK252.out 0
                     have hfz59_1:=blk_frozen BK252.out 1
                     have hfz59_2:=blk_frozen BK252.out 2
                     have hfz59_3:=blk_frozen BK252.out 3
                     have hfz59_4:=blk_frozen BK252.out 4
                     go_wp2
                     repeat (go_quiet (fail);try go_wp2)
                     go_loopg [23,24] k6 (fun kq v23 v24 w'=> ∃ (x23_7:Int) (x24_7:Int),v23= .int .i64 x23_7∧v24= .int .i64 x24_7∧Aside0 (parquetrylaw19_PlaceOnce.l4 kq t257 t262 x19_6 x20_5 x22_6 x23_7 x24_7 a2_0 a2_1 a2_2 a2_3 a2_4=some r)∧Aside0 (kq≤k6)∧Aside0 (Kd.R k42 42 w' w.heap.size (fun _=>True) (.slice Ao56 t257.length co56) t257)∧Aside0 (Kd.R k40 40 w' w.heap.size (fun _=>True) v263 t262)∧Aside0 (w'.heap[gb252]?=some (.cells #[.int .i64 a2_0,.int .i64 a2_1,.int .i64 a2_2,.int .i64 a2_3,.int .i64 a2_4] 25 (0,0)))∧Aside0 (Below w.heap.size w w'))
                     case atStart=>exact ⟨((-1)),(0),(by first|rfl|(simp;done)|(simp [*];done)),(by first|rfl|(simp;done)|(simp [*];done)),H',⟨Nat.le_refl _⟩,⟨by (with_reducible repeat (first|apply Kd.R_alloc|apply Kd.R_drewN|apply Kd.R_drew));exact HO_14.out⟩,⟨by (with_reducible repeat (first|apply Kd.R_alloc|apply Kd.R_drewN|apply Kd.R_drew));exact HO_16.out⟩,⟨by (with_reducible repeat (first|refine blk_drewN ?_ _|refine blk_drew ?_|refine blk_alloc ?_ _));exact BK252.out⟩,⟨by repeat (first|(with_reducible first|exact HB.out|apply below_alloc|apply pw_below_drewN|apply below_drew1|refine below_set ?_ GE252.out)|exact HB.out)⟩⟩
                     case round => as_aux_lemma =>
                      clear H'
                      try clear c58
                      try clear c58b0
                      try clear hcz59_0
                      try clear hcz59_1
                      try clear hcz59_2
                      try clear hcz59_3
                      try clear hcz59_4
                      try clear hfz59_0
                      try clear hfz59_1
                      try clear hfz59_2
                      try clear hfz59_3
                      try clear hfz59_4
                      obtain ⟨x23_7,x24_7,rfl,rfl,HA,HK7,HO_14,HO_16,BK252,HB⟩:=hrel
                      cases gk with
                      | zero=>exact absurd HA.out (by simp [parquetrylaw19_PlaceOnce.l4])
                      | succ k7 =>
                       have H:=HA.out
                       clear HA
                       simp only [parquetrylaw19_PlaceOnce.l4] at H
                       have HC60:=Aside0.mk H
                       clear H
                       go_upto_region 39 with (fail)
                       repeat (go_quiet (fail);go_upto_region 39 with (fail))
                       go_cut [144] (fun v144 wc=> ∃ (kq:Nat) (x144_59:Bool),v144= .bool x144_59∧Aside0 (parquetrylaw19_PlaceOnce.j7 kq t257 t262 x19_6 x20_5 x22_6 x23_7 x24_7 x144_59 a2_0 a2_1 a2_2 a2_3 a2_4=some r)∧Aside0 (kq≤k7)∧Aside0 (Kd.R k42 42 wc w.heap.size (fun _=>True) (.slice Ao56 t257.length co56) t257)∧Aside0 (Kd.R k40 40 wc w.heap.size (fun _=>True) v263 t262)∧Aside0 (wc.heap[gb252]?=some (.cells #[.int .i64 a2_0,.int .i64 a2_1,.int .i64 a2_2,.int .i64 a2_3,.int .i64 a2_4] 25 (0,0)))∧Aside0 (Below w.heap.size w wc))
                       case first => as_aux_lemma =>
                        have H:=HC60.out
                        clear HC60
                        by_cases c61:x24_7 < (t257.length:Int)
                        ·
                         rw [if_pos c61] at H
                         have c61b0:decide (x24_7 < (t257.length:Int))=true:=decide_eq_true c61
                         clear c61
                         (first|rw [c61b0]|(simp only [i64_w,i32_w];rw [c61b0])|skip)
                         by_cases c62:0≤x22_6
                         ·
                          rw [if_pos c62] at H
                          have c62b0:decide (0≤x22_6)=true:=decide_eq_true c62
                          clear c62
                          by_cases c63:x22_6 < (t262.length:Int)
                          ·
                           rw [if_pos c63] at H
                           have c63b0:decide (x22_6 < (t262.length:Int))=true:=decide_eq_true c63
                           clear c63
                           have H':=Aside0.mk H
                           clear H
                           obtain ⟨Ao64,co64,eo64⟩:=Kd.R_slice HO_16.out
                           subst eo64
                           have p269:0≤(x22_6:Int):=of_decide_eq_true (by first|(with_reducible assumption)|assumption)
                           have q269:x22_6 < (t262.length:Int):=of_decide_eq_true (by first|(with_reducible assumption)|assumption)
                           obtain ⟨ad269,e269,hx269_0,hx269_1,hx269_2,hx269_3,hx269_4,hx269_5⟩:=at_T40 (Kd.R_reads' HO_16.out).2.2 x22_6 p269 q269
                           cases e269
                           replace p269:=eq_true p269
                           replace q269:=eq_true q269
                           go_wp2
                           repeat (go_quiet (fail);try go_wp2)
                           go_meet
                           case rel=>exact ⟨_,(decide (((rd_T40 t262 x22_6).f4) > 0)),(by first|rfl|(simp;done)|(simp [*];done)),H',⟨by have:=HK1.out;have:=HJ22.out;have:=HJ32.out;have:=HK4.out;have:=HK5.out;have:=HK6.out;have:=HK7.out;first|omega|exact Nat.le_refl _⟩,⟨by (with_reducible repeat (first|apply Kd.R_alloc|apply Kd.R_drewN|apply Kd.R_drew));exact HO_14.out⟩,⟨by (with_reducible repeat (first|apply Kd.R_alloc|apply Kd.R_drewN|apply Kd.R_drew));exact HO_16.out⟩,⟨by (with_reducible repeat (first|refine blk_drewN ?_ _|refine blk_drew ?_|refine blk_alloc ?_ _));exact BK252.out⟩,⟨by repeat (first|(with_reducible first|exact HB.out|apply below_alloc|apply pw_below_drewN|apply below_drew1|refine below_set ?_ GE252.out)|exact HB.out)⟩⟩
                          ·
                           rw [if_neg c63] at H
                           exact absurd H (by simp)
                         ·
                          rw [if_neg c62] at H
                          exact absurd H (by simp)
                        ·
                         rw [if_neg c61] at H
                         have c61b0:decide (x24_7 < (t257.length:Int))=false:=decide_eq_false c61
                         clear c61
                         (first|rw [c61b0]|(simp only [i64_w,i32_w];rw [c61b0])|skip)
                         have H':=Aside0.mk H
                         clear H
                         go_wp2
                         repeat (go_quiet (fail);try go_wp2)
                         go_meet
                         case rel=>exact ⟨_,(false),(by first|rfl|(simp;done)|(simp [*];done)),H',⟨by have:=HK1.out;have:=HJ22.out;have:=HJ32.out;have:=HK4.out;have:=HK5.out;have:=HK6.out;have:=HK7.out;first|omega|exact Nat.le_refl _⟩,⟨by (with_reducible repeat (first|apply Kd.R_alloc|apply Kd.R_drewN|apply Kd.R_drew));exact HO_14.out⟩,⟨by (with_reducible repeat (first|apply Kd.R_alloc|apply Kd.R_drewN|apply Kd.R_drew));exact HO_16.out⟩,⟨by (with_reducible repeat (first|refine blk_drewN ?_ _|refine blk_drew ?_|refine blk_alloc ?_ _));exact BK252.out⟩,⟨by repeat (first|(with_reducible first|exact HB.out|apply below_alloc|apply pw_below_drewN|apply below_drew1|refine below_set ?_ GE252.out)|exact HB.out)⟩⟩
                       case rest => as_aux_lemma =>
                        clear HC60
                        try clear c6
                        try clear c61
                        try clear c61b0
                        try clear c62
                        try clear c62b0
                        try clear c63
                        try clear c63b0
                        try clear p64
                        try clear hx269_0
                        try clear hx269_1
                        try clear hx269_2
                        try clear hx269_3
                        try clear hx269_4
                        try clear hx269_5
                        try clear p269
                        try clear q269
                        obtain ⟨kq,x144_59,rfl,HA,HJ59,HO_14,HO_16,BK252,HB⟩:=hcut
                        cases kq with
                        | zero=>exact absurd HA.out (by simp [parquetrylaw19_PlaceOnce.j7])
                        | succ kj59 =>
                         have H:=HA.out
                         clear HA
                         simp only [parquetrylaw19_PlaceOnce.j7] at H
                         by_cases c65:x144_59=true
                         ·
                          subst c65
                          have H1:(if 0≤x24_7 then (if x24_7 < (t257.length:Int) then (if ((rd_T42 t257 x24_7).f0)=4 then (if 0≤x22_6 then (if x22_6 < (t262.length:Int) then (if ((rd_T42 t257 x24_7).f3)=((rd_T40 t262 x22_6).f0) then (parquetrylaw19_PlaceOnce.j8 kj59 t257 t262 x19_6 x20_5 x22_6 x23_7 x24_7 (((rd_T42 t257 x24_7).f4)==0) a2_0 a2_1 a2_2 a2_3 a2_4) else (parquetrylaw19_PlaceOnce.j8 kj59 t257 t262 x19_6 x20_5 x22_6 x23_7 x24_7 false a2_0 a2_1 a2_2 a2_3 a2_4)) else (none)) else (none)) else (parquetrylaw19_PlaceOnce.j8 kj59 t257 t262 x19_6 x20_5 x22_6 x23_7 x24_7 false a2_0 a2_1 a2_2 a2_3 a2_4)) else (none)) else (none))=some r:=by rw [if_pos rfl] at H;exact H
                          clear H
                          have H:=H1
                          clear H1
                          have HC66:=Aside0.mk H
                          clear H
                          go_upto_region 41 with (fail)
                          repeat (go_quiet (fail);go_upto_region 41 with (fail))
                          go_cut [173] (fun v173 wc=> ∃ (kq:Nat) (x173_65:Bool),v173= .bool x173_65∧Aside0 (parquetrylaw19_PlaceOnce.j8 kq t257 t262 x19_6 x20_5 x22_6 x23_7 x24_7 x173_65 a2_0 a2_1 a2_2 a2_3 a2_4=some r)∧Aside0 (kq≤kj59)∧Aside0 (Kd.R k42 42 wc w.heap.size (fun _=>True) (.slice Ao56 t257.length co56) t257)∧Aside0 (Kd.R k40 40 wc w.heap.size (fun _=>True) v263 t262)∧Aside0 (wc.heap[gb252]?=some (.cells #[.int .i64 a2_0,.int .i64 a2_1,.int .i64 a2_2,.int .i64 a2_3,.int .i64 a2_4] 25 (0,0)))∧Aside0 (Below w.heap.size w wc))
                          case first => as_aux_lemma =>
                           have H:=HC66.out
                           clear HC66
                           by_cases c67:0≤x24_7
                           ·
                            rw [if_pos c67] at H
                            have c67b0:decide (0≤x24_7)=true:=decide_eq_true c67
                            clear c67
                            (first|rw [c67b0]|(simp only [i64_w,i32_w];rw [c67b0])|skip)
                            by_cases c68:x24_7 < (t257.length:Int)
                            ·
                             rw [if_pos c68] at H
                             have c68b0:decide (x24_7 < (t257.length:Int))=true:=decide_eq_true c68
                             clear c68
                             by_cases c69:((rd_T42 t257 x24_7).f0)=4
                             ·
                              rw [if_pos c69] at H
                              have c69b0:(((rd_T42 t257 x24_7).f0)==4)=true:=beq_iff_eq.mpr c69
                              have c69b1:(((rd_T42 t257 x24_7).f0) !=4)=false:=bne_eq_false_iff_eq.mpr c69
                              clear c69
                              by_cases c70:0≤x22_6
                              ·
                               rw [if_pos c70] at H
                               have c70b0:decide (0≤x22_6)=true:=decide_eq_true c70
                               clear c70
                               by_cases c71:x22_6 < (t262.length:Int)
                               ·
                                rw [if_pos c71] at H
                                have c71b0:decide (x22_6 < (t262.length:Int))=true:=decide_eq_true c71
                                clear c71
                                by_cases c72:((rd_T42 t257 x24_7).f3)=((rd_T40 t262 x22_6).f0)
                                ·
                                 rw [if_pos c72] at H
                                 have c72b0:(((rd_T42 t257 x24_7).f3)==((rd_T40 t262 x22_6).f0))=true:=beq_iff_eq.mpr c72
                                 have c72b1:(((rd_T42 t257 x24_7).f3) !=((rd_T40 t262 x22_6).f0))=false:=bne_eq_false_iff_eq.mpr c72
                                 clear c72
                                 have H':=Aside0.mk H
                                 clear H
                                 have p270:0≤(x24_7:Int):=of_decide_eq_true (by first|(with_reducible assumption)|assumption)
                                 have q270:x24_7 < (t257.length:Int):=of_decide_eq_true (by first|(with_reducible assumption)|assumption)
                                 obtain ⟨ad270,e270,hx270_0,hx270_1,hx270_2,hx270_3,hx270_4,hx270_5⟩:=at_T42 (Kd.R_reads' HO_14.out).2.2 x24_7 p270 q270
                                 cases e270
                                 replace p270:=eq_true p270
                                 replace q270:=eq_true q270
                                 have p271:0≤(x24_7:Int):=of_decide_eq_true (by first|(with_reducible assumption)|assumption)
                                 have q271:x24_7 < (t257.length:Int):=of_decide_eq_true (by first|(with_reducible assumption)|assumption)
                                 obtain ⟨ad271,e271,hx271_0,hx271_1,hx271_2,hx271_3,hx271_4,hx271_5⟩:=at_T42 (Kd.R_reads' HO_14.out).2.2 x24_7 p271 q271
                                 obtain rfl:ad270=ad271:=(by injection e271)
                                 replace p271:=eq_true p271
                                 replace q271:=eq_true q271
                                 obtain ⟨Ao73,co73,eo73⟩:=Kd.R_slice HO_16.out
                                 subst eo73
                                 have p272:0≤(x22_6:Int):=of_decide_eq_true (by first|(with_reducible assumption)|assumption)
                                 have q272:x22_6 < (t262.length:Int):=of_decide_eq_true (by first|(with_reducible assumption)|assumption)
                                 obtain ⟨ad272,e272,hx272_0,hx272_1,hx272_2,hx272_3,hx272_4,hx272_5⟩:=at_T40 (Kd.R_reads' HO_16.out).2.2 x22_6 p272 q272
                                 cases e272
                                 replace p272:=eq_true p272
                                 replace q272:=eq_true q272
                                 have p273:0≤(x24_7:Int):=of_decide_eq_true (by first|(with_reducible assumption)|assumption)
                                 have q273:x24_7 < (t257.length:Int):=of_decide_eq_true (by first|(with_reducible assumption)|assumption)
                                 obtain ⟨ad273,e273,hx273_0,hx273_1,hx273_2,hx273_3,hx273_4,hx273_5⟩:=at_T42 (Kd.R_reads' HO_14.out).2.2 x24_7 p273 q273
                                 obtain rfl:ad270=ad273:=(by injection e273)
                                 replace p273:=eq_true p273
                                 replace q273:=eq_true q273
                                 go_wp2
                                 repeat (go_quiet (fail);try go_wp2)
                                 go_meet
                                 case rel=>exact ⟨_,((((rd_T42 t257 x24_7).f4)==0)),(by first|rfl|(simp;done)|(simp [*];done)),H',⟨by have:=HK1.out;have:=HJ22.out;have:=HJ32.out;have:=HK4.out;have:=HK5.out;have:=HK6.out;have:=HK7.out;have:=HJ59.out;first|omega|exact Nat.le_refl _⟩,⟨by (with_reducible repeat (first|apply Kd.R_alloc|apply Kd.R_drewN|apply Kd.R_drew));exact HO_14.out⟩,⟨by (with_reducible repeat (first|apply Kd.R_alloc|apply Kd.R_drewN|apply Kd.R_drew));exact HO_16.out⟩,⟨by (with_reducible repeat (first|refine blk_drewN ?_ _|refine blk_drew ?_|refine blk_alloc ?_ _));exact BK252.out⟩,⟨by repeat (first|(with_reducible first|exact HB.out|apply below_alloc|apply pw_below_drewN|apply below_drew1|refine below_set ?_ GE252.out)|exact HB.out)⟩⟩
                                ·
                                 rw [if_neg c72] at H
                                 have c72b0:(((rd_T42 t257 x24_7).f3)==((rd_T40 t262 x22_6).f0))=false:=beq_eq_false_iff_ne.mpr c72
                                 have c72b1:(((rd_T42 t257 x24_7).f3) !=((rd_T40 t262 x22_6).f0))=true:=bne_iff_ne.mpr c72
                                 have H':=Aside0.mk H
                                 clear H
                                 have p270:0≤(x24_7:Int):=of_decide_eq_true (by first|(with_reducible assumption)|assumption)
                                 have q270:x24_7 < (t257.length:Int):=of_decide_eq_true (by first|(with_reducible assumption)|assumption)
                                 obtain ⟨ad270,e270,hx270_0,hx270_1,hx270_2,hx270_3,hx270_4,hx270_5⟩:=at_T42 (Kd.R_reads' HO_14.out).2.2 x24_7 p270 q270
                                 cases e270
                                 replace p270:=eq_true p270
                                 replace q270:=eq_true q270
                                 have p271:0≤(x24_7:Int):=of_decide_eq_true (by first|(with_reducible assumption)|assumption)
                                 have q271:x24_7 < (t257.length:Int):=of_decide_eq_true (by first|(with_reducible assumption)|assumption)
                                 obtain ⟨ad271,e271,hx271_0,hx271_1,hx271_2,hx271_3,hx271_4,hx271_5⟩:=at_T42 (Kd.R_reads' HO_14.out).2.2 x24_7 p271 q271
                                 obtain rfl:ad270=ad271:=(by injection e271)
                                 replace p271:=eq_true p271
                                 replace q271:=eq_true q271
                                 obtain ⟨Ao74,co74,eo74⟩:=Kd.R_slice HO_16.out
                                 subst eo74
                                 have p272:0≤(x22_6:Int):=of_decide_eq_true (by first|(with_reducible assumption)|assumption)
                                 have q272:x22_6 < (t262.length:Int):=of_decide_eq_true (by first|(with_reducible assumption)|assumption)
                                 obtain ⟨ad272,e272,hx272_0,hx272_1,hx272_2,hx272_3,hx272_4,hx272_5⟩:=at_T40 (Kd.R_reads' HO_16.out).2.2 x22_6 p272 q272
                                 cases e272
                                 replace p272:=eq_true p272
                                 replace q272:=eq_true q272
                                 go_wp2
                                 repeat (go_quiet (fail);try go_wp2)
                                 go_meet
                                 case rel=>exact ⟨_,(false),(by first|rfl|(simp;done)|(simp [*];done)),H',⟨by have:=HK1.out;have:=HJ22.out;have:=HJ32.out;have:=HK4.out;have:=HK5.out;have:=HK6.out;have:=HK7.out;have:=HJ59.out;first|omega|exact Nat.le_refl _⟩,⟨by (with_reducible repeat (first|apply Kd.R_alloc|apply Kd.R_drewN|apply Kd.R_drew));exact HO_14.out⟩,⟨by (with_reducible repeat (first|apply Kd.R_alloc|apply Kd.R_drewN|apply Kd.R_drew));exact HO_16.out⟩,⟨by (with_reducible repeat (first|refine blk_drewN ?_ _|refine blk_drew ?_|refine blk_alloc ?_ _));exact BK252.out⟩,⟨by repeat (first|(with_reducible first|exact HB.out|apply below_alloc|apply pw_below_drewN|apply below_drew1|refine below_set ?_ GE252.out)|exact HB.out)⟩⟩
                               ·
                                rw [if_neg c71] at H
                                exact absurd H (by simp)
                              ·
                               rw [if_neg c70] at H
                               exact absurd H (by simp)
                             ·
                              rw [if_neg c69] at H
                              have c69b0:(((rd_T42 t257 x24_7).f0)==4)=false:=beq_eq_false_iff_ne.mpr c69
                              have c69b1:(((rd_T42 t257 x24_7).f0) !=4)=true:=bne_iff_ne.mpr c69
                              have H':=Aside0.mk H
                              clear H
                              have p270:0≤(x24_7:Int):=of_decide_eq_true (by first|(with_reducible assumption)|assumption)
                              have q270:x24_7 < (t257.length:Int):=of_decide_eq_true (by first|(with_reducible assumption)|assumption)
                              obtain ⟨ad270,e270,hx270_0,hx270_1,hx270_2,hx270_3,hx270_4,hx270_5⟩:=at_T42 (Kd.R_reads' HO_14.out).2.2 x24_7 p270 q270
                              cases e270
                              replace p270:=eq_true p270
                              replace q270:=eq_true q270
                              go_wp2
                              repeat (go_quiet (fail);try go_wp2)
                              go_meet
                              case rel=>exact ⟨_,(false),(by first|rfl|(simp;done)|(simp [*];done)),H',⟨by have:=HK1.out;have:=HJ22.out;have:=HJ32.out;have:=HK4.out;have:=HK5.out;have:=HK6.out;have:=HK7.out;have:=HJ59.out;first|omega|exact Nat.le_refl _⟩,⟨by (with_reducible repeat (first|apply Kd.R_alloc|apply Kd.R_drewN|apply Kd.R_drew));exact HO_14.out⟩,⟨by (with_reducible repeat (first|apply Kd.R_alloc|apply Kd.R_drewN|apply Kd.R_drew));exact HO_16.out⟩,⟨by (with_reducible repeat (first|refine blk_drewN ?_ _|refine blk_drew ?_|refine blk_alloc ?_ _));exact BK252.out⟩,⟨by repeat (first|(with_reducible first|exact HB.out|apply below_alloc|apply pw_below_drewN|apply below_drew1|refine below_set ?_ GE252.out)|exact HB.out)⟩⟩
                            ·
                             rw [if_neg c68] at H
                             exact absurd H (by simp)
                           ·
                            rw [if_neg c67] at H
                            exact absurd H (by simp)
                          case rest => as_aux_lemma =>
                           clear HC66
                           try clear p27
                           try clear q27
                           try clear hx27
                           try clear c65
                           try clear c67
                           try clear c67b0
                           try clear c68
                           try clear c68b0
                           try clear c69
                           try clear c69b0
                           try clear c69b1
                           try clear c70
                           try clear c70b0
                           try clear c71
                           try clear c71b0
                           try clear c72
                           try clear c72b0
                           try clear c72b1
                           try clear hx270_0
                           try clear hx270_1
                           try clear hx270_2
                           try clear hx270_3
                           try clear hx270_4
                           try clear hx270_5
                           try clear hx271_0
                           try clear hx271_1
                           try clear hx271_2
                           try clear hx271_3
                           try clear hx271_4
                           try clear hx271_5
                           try clear hx272_0
                           try clear hx272_1
                           try clear hx272_2
                           try clear hx272_3
                           try clear hx272_4
                           try clear hx272_5
                           try clear hx273_0
                           try clear hx273_1
                           try clear hx273_2
                           try clear hx273_3
                           try clear hx273_4
                           try clear hx273_5
                           try clear p270
                           try clear p271
                           try clear p272
                           try clear p273
                           try clear q270
                           try clear q271
                           try clear q272
                           try clear q273
                           obtain ⟨kq,x173_65,rfl,HA,HJ65,HO_14,HO_16,BK252,HB⟩:=hcut
                           cases kq with
                           | zero=>exact absurd HA.out (by simp [parquetrylaw19_PlaceOnce.j8])
                           | succ kj65 =>
                            have H:=HA.out
                            clear HA
                            simp only [parquetrylaw19_PlaceOnce.j8] at H
                            by_cases c75:x173_65=true
                            ·
                             subst c75
                             have H1:(if x23_7≥0 then (none) else (parquetrylaw19_PlaceOnce.l4 kj65 t257 t262 x19_6 x20_5 x22_6 x24_7 (wrap64 (x24_7+1)) a2_0 a2_1 a2_2 a2_3 a2_4))=some r:=by rw [if_pos rfl] at H;exact H
                             clear H
                             have H:=H1
                             clear H1
                             by_cases c76:x23_7≥0
                             ·
                              rw [if_pos c76] at H
                              have c76b0:decide (0≤x23_7)=true:=decide_eq_true c76
                              clear c76
                              cases H
                             ·
                              rw [if_neg c76] at H
                              have c76b0:decide (0≤x23_7)=false:=decide_eq_false c76
                              clear c76
                              have H':=Aside0.mk H
                              clear H
                              go_wp2
                              repeat (go_quiet (fail);try go_wp2)
                              go_roundg kj65
                              case measure=>have:=HK1.out;have:=HJ22.out;have:=HJ32.out;have:=HK4.out;have:=HK5.out;have:=HK6.out;have:=HK7.out;have:=HJ59.out;have:=HJ65.out;omega
                              case rel=>exact ⟨(x24_7),(wrap64 (x24_7+1)),(by first|rfl|(simp;done)|(simp [*];done)),(by first|rfl|(simp;done)|(simp [*];done)),H',⟨by have:=HK1.out;have:=HJ22.out;have:=HJ32.out;have:=HK4.out;have:=HK5.out;have:=HK6.out;have:=HK7.out;have:=HJ59.out;have:=HJ65.out;omega⟩,⟨by (with_reducible repeat (first|apply Kd.R_alloc|apply Kd.R_drewN|apply Kd.R_drew));exact HO_14.out⟩,⟨by (with_reducible repeat (first|apply Kd.R_alloc|apply Kd.R_drewN|apply Kd.R_drew));exact HO_16.out⟩,⟨by (with_reducible repeat (first|refine blk_drewN ?_ _|refine blk_drew ?_|refine blk_alloc ?_ _));exact BK252.out⟩,⟨by repeat (first|(with_reducible first|exact HB.out|apply below_alloc|apply pw_below_drewN|apply below_drew1|refine below_set ?_ GE252.out)|exact HB.out)⟩⟩
                            ·
                             replace c75:=Bool.eq_false_iff.mpr c75
                             subst c75
                             have H1:(parquetrylaw19_PlaceOnce.l4 kj65 t257 t262 x19_6 x20_5 x22_6 x23_7 (wrap64 (x24_7+1)) a2_0 a2_1 a2_2 a2_3 a2_4)=some r:=by rw [if_neg (show ¬ (false=true) by decide)] at H;exact H
                             clear H
                             have H:=H1
                             clear H1
                             have H':=Aside0.mk H
                             clear H
                             go_wp2
                             repeat (go_quiet (fail);try go_wp2)
                             go_roundg kj65
                             case measure=>have:=HK1.out;have:=HJ22.out;have:=HJ32.out;have:=HK4.out;have:=HK5.out;have:=HK6.out;have:=HK7.out;have:=HJ59.out;have:=HJ65.out;omega
                             case rel=>exact ⟨(x23_7),(wrap64 (x24_7+1)),(by first|rfl|(simp;done)|(simp [*];done)),(by first|rfl|(simp;done)|(simp [*];done)),H',⟨by have:=HK1.out;have:=HJ22.out;have:=HJ32.out;have:=HK4.out;have:=HK5.out;have:=HK6.out;have:=HK7.out;have:=HJ59.out;have:=HJ65.out;omega⟩,⟨by (with_reducible repeat (first|apply Kd.R_alloc|apply Kd.R_drewN|apply Kd.R_drew));exact HO_14.out⟩,⟨by (with_reducible repeat (first|apply Kd.R_alloc|apply Kd.R_drewN|apply Kd.R_drew));exact HO_16.out⟩,⟨by (with_reducible repeat (first|refine blk_drewN ?_ _|refine blk_drew ?_|refine blk_alloc ?_ _));exact BK252.out⟩,⟨by repeat (first|(with_reducible first|exact HB.out|apply below_alloc|apply pw_below_drewN|apply below_drew1|refine below_set ?_ GE252.out)|exact HB.out)⟩⟩
                         ·
                          replace c65:=Bool.eq_false_iff.mpr c65
                          subst c65
                          have H1:(if 0≤x22_6 then (if x22_6 < (t262.length:Int) then (if ((rd_T40 t262 x22_6).f4) > 0 then (if x23_7 < 0 then (parquetrylaw19_PlaceOnce.j9 kj59 t257 t262 x19_6 x20_5 x22_6 x23_7 true a2_0 a2_1 a2_2 a2_3 a2_4) else (if x23_7≥0 then (parquetrylaw19_PlaceOnce.j9 kj59 t257 t262 x19_6 x20_5 x22_6 x23_7 (decide ((wrap64 (x23_7+((rd_T40 t262 x22_6).f4))) > (t257.length:Int))) a2_0 a2_1 a2_2 a2_3 a2_4) else (parquetrylaw19_PlaceOnce.j9 kj59 t257 t262 x19_6 x20_5 x22_6 x23_7 false a2_0 a2_1 a2_2 a2_3 a2_4))) else (if x23_7≥0 then (parquetrylaw19_PlaceOnce.j9 kj59 t257 t262 x19_6 x20_5 x22_6 x23_7 (decide ((wrap64 (x23_7+((rd_T40 t262 x22_6).f4))) > (t257.length:Int))) a2_0 a2_1 a2_2 a2_3 a2_4) else (parquetrylaw19_PlaceOnce.j9 kj59 t257 t262 x19_6 x20_5 x22_6 x23_7 false a2_0 a2_1 a2_2 a2_3 a2_4))) else (none)) else (none))=some r:=by rw [if_neg (show ¬ (false=true) by decide)] at H;exact H
                          clear H
                          have H:=H1
                          clear H1
                          have HC77:=Aside0.mk H
                          clear H
                          go_upto_region 45 with (fail)
                          repeat (go_quiet (fail);go_upto_region 45 with (fail))
                          go_cut [202] (fun v202 wc=> ∃ (kq:Nat) (x202_76:Bool),v202= .bool x202_76∧Aside0 (parquetrylaw19_PlaceOnce.j9 kq t257 t262 x19_6 x20_5 x22_6 x23_7 x202_76 a2_0 a2_1 a2_2 a2_3 a2_4=some r)∧Aside0 (kq≤kj59)∧Aside0 (Kd.R k42 42 wc w.heap.size (fun _=>True) (.slice Ao56 t257.length co56) t257)∧Aside0 (Kd.R k40 40 wc w.heap.size (fun _=>True) v263 t262)∧Aside0 (wc.heap[gb252]?=some (.cells #[.int .i64 a2_0,.int .i64 a2_1,.int .i64 a2_2,.int .i64 a2_3,.int .i64 a2_4] 25 (0,0)))∧Aside0 (Below w.heap.size w wc))
                          case first => as_aux_lemma =>
                           have H:=HC77.out
                           clear HC77
                           by_cases c78:0≤x22_6
                           ·
                            rw [if_pos c78] at H
                            have c78b0:decide (0≤x22_6)=true:=decide_eq_true c78
                            clear c78
                            (first|rw [c78b0]|(simp only [i64_w,i32_w];rw [c78b0])|skip)
                            by_cases c79:x22_6 < (t262.length:Int)
                            ·
                             rw [if_pos c79] at H
                             have c79b0:decide (x22_6 < (t262.length:Int))=true:=decide_eq_true c79
                             clear c79
                             by_cases c80:((rd_T40 t262 x22_6).f4) > 0
                             ·
                              rw [if_pos c80] at H
                              have c80b0:decide (0 < ((rd_T40 t262 x22_6).f4))=true:=decide_eq_true c80
                              clear c80
                              by_cases c81:x23_7 < 0
                              ·
                               rw [if_pos c81] at H
                               have c81b0:decide (x23_7 < 0)=true:=decide_eq_true c81
                               clear c81
                               have H':=Aside0.mk H
                               clear H
                               obtain ⟨Ao82,co82,eo82⟩:=Kd.R_slice HO_16.out
                               subst eo82
                               have p274:0≤(x22_6:Int):=of_decide_eq_true (by first|(with_reducible assumption)|assumption)
                               have q274:x22_6 < (t262.length:Int):=of_decide_eq_true (by first|(with_reducible assumption)|assumption)
                               obtain ⟨ad274,e274,hx274_0,hx274_1,hx274_2,hx274_3,hx274_4,hx274_5⟩:=at_T40 (Kd.R_reads' HO_16.out).2.2 x22_6 p274 q274
                               cases e274
                               replace p274:=eq_true p274
                               replace q274:=eq_true q274
                               go_wp2
                               repeat (go_quiet (fail);try go_wp2)
                               go_meet
                               case rel=>exact ⟨_,(true),(by first|rfl|(simp;done)|(simp [*];done)),H',⟨by have:=HK1.out;have:=HJ22.out;have:=HJ32.out;have:=HK4.out;have:=HK5.out;have:=HK6.out;have:=HK7.out;have:=HJ59.out;first|omega|exact Nat.le_refl _⟩,⟨by (with_reducible repeat (first|apply Kd.R_alloc|apply Kd.R_drewN|apply Kd.R_drew));exact HO_14.out⟩,⟨by (with_reducible repeat (first|apply Kd.R_alloc|apply Kd.R_drewN|apply Kd.R_drew));exact HO_16.out⟩,⟨by (with_reducible repeat (first|refine blk_drewN ?_ _|refine blk_drew ?_|refine blk_alloc ?_ _));exact BK252.out⟩,⟨by repeat (first|(with_reducible first|exact HB.out|apply below_alloc|apply pw_below_drewN|apply below_drew1|refine below_set ?_ GE252.out)|exact HB.out)⟩⟩
                              ·
                               rw [if_neg c81] at H
                               have c81b0:decide (x23_7 < 0)=false:=decide_eq_false c81
                               clear c81
                               by_cases c83:x23_7≥0
                               ·
                                rw [if_pos c83] at H
                                have c83b0:decide (0≤x23_7)=true:=decide_eq_true c83
                                clear c83
                                have H':=Aside0.mk H
                                clear H
                                obtain ⟨Ao84,co84,eo84⟩:=Kd.R_slice HO_16.out
                                subst eo84
                                have p274:0≤(x22_6:Int):=of_decide_eq_true (by first|(with_reducible assumption)|assumption)
                                have q274:x22_6 < (t262.length:Int):=of_decide_eq_true (by first|(with_reducible assumption)|assumption)
                                obtain ⟨ad274,e274,hx274_0,hx274_1,hx274_2,hx274_3,hx274_4,hx274_5⟩:=at_T40 (Kd.R_reads' HO_16.out).2.2 x22_6 p274 q274
                                cases e274
                                replace p274:=eq_true p274
                                replace q274:=eq_true q274
                                have p275:0≤(x22_6:Int):=of_decide_eq_true (by first|(with_reducible assumption)|assumption)
                                have q275:x22_6 < (t262.length:Int):=of_decide_eq_true (by first|(with_reducible assumption)|assumption)
                                obtain ⟨ad275,e275,hx275_0,hx275_1,hx275_2,hx275_3,hx275_4,hx275_5⟩:=at_T40 (Kd.R_reads' HO_16.out).2.2 x22_6 p275 q275
                                obtain rfl:ad274=ad275:=(by injection e275)
                                replace p275:=eq_true p275
                                replace q275:=eq_true q275
                                go_wp2
                                repeat (go_quiet (fail);try go_wp2)
                                go_meet
                                case rel=>exact ⟨_,(decide ((wrap64 (x23_7+((rd_T40 t262 x22_6).f4))) > (t257.length:Int))),(by first|rfl|(simp;done)|(simp [*];done)),H',⟨by have:=HK1.out;have:=HJ22.out;have:=HJ32.out;have:=HK4.out;have:=HK5.out;have:=HK6.out;have:=HK7.out;have:=HJ59.out;first|omega|exact Nat.le_refl _⟩,⟨by (with_reducible repeat (first|apply Kd.R_alloc|apply Kd.R_drewN|apply Kd.R_drew));exact HO_14.out⟩,⟨by (with_reducible repeat (first|apply Kd.R_alloc|apply Kd.R_drewN|apply Kd.R_drew));exact HO_16.out⟩,⟨by (with_reducible repeat (first|refine blk_drewN ?_ _|refine blk_drew ?_|refine blk_alloc ?_ _));exact BK252.out⟩,⟨by repeat (first|(with_reducible first|exact HB.out|apply below_alloc|apply pw_below_drewN|apply below_drew1|refine below_set ?_ GE252.out)|exact HB.out)⟩⟩
                               ·
                                rw [if_neg c83] at H
                                have c83b0:decide (0≤x23_7)=false:=decide_eq_false c83
                                clear c83
                                have H':=Aside0.mk H
                                clear H
                                obtain ⟨Ao85,co85,eo85⟩:=Kd.R_slice HO_16.out
                                subst eo85
                                have p274:0≤(x22_6:Int):=of_decide_eq_true (by first|(with_reducible assumption)|assumption)
                                have q274:x22_6 < (t262.length:Int):=of_decide_eq_true (by first|(with_reducible assumption)|assumption)
                                obtain ⟨ad274,e274,hx274_0,hx274_1,hx274_2,hx274_3,hx274_4,hx274_5⟩:=at_T40 (Kd.R_reads' HO_16.out).2.2 x22_6 p274 q274
                                cases e274
                                replace p274:=eq_true p274
                                replace q274:=eq_true q274
                                go_wp2
                                repeat (go_quiet (fail);try go_wp2)
                                go_meet
                                case rel=>exact ⟨_,(false),(by first|rfl|(simp;done)|(simp [*];done)),H',⟨by have:=HK1.out;have:=HJ22.out;have:=HJ32.out;have:=HK4.out;have:=HK5.out;have:=HK6.out;have:=HK7.out;have:=HJ59.out;first|omega|exact Nat.le_refl _⟩,⟨by (with_reducible repeat (first|apply Kd.R_alloc|apply Kd.R_drewN|apply Kd.R_drew));exact HO_14.out⟩,⟨by (with_reducible repeat (first|apply Kd.R_alloc|apply Kd.R_drewN|apply Kd.R_drew));exact HO_16.out⟩,⟨by (with_reducible repeat (first|refine blk_drewN ?_ _|refine blk_drew ?_|refine blk_alloc ?_ _));exact BK252.out⟩,⟨by repeat (first|(with_reducible first|exact HB.out|apply below_alloc|apply pw_below_drewN|apply below_drew1|refine below_set ?_ GE252.out)|exact HB.out)⟩⟩
                             ·
                              rw [if_neg c80] at H
                              have c80b0:decide (0 < ((rd_T40 t262 x22_6).f4))=false:=decide_eq_false c80
                              clear c80
                              by_cases c86:x23_7≥0
                              ·
                               rw [if_pos c86] at H
                               have c86b0:decide (0≤x23_7)=true:=decide_eq_true c86
                               clear c86
                               have H':=Aside0.mk H
                               clear H
                               obtain ⟨Ao87,co87,eo87⟩:=Kd.R_slice HO_16.out
                               subst eo87
                               have p274:0≤(x22_6:Int):=of_decide_eq_true (by first|(with_reducible assumption)|assumption)
                               have q274:x22_6 < (t262.length:Int):=of_decide_eq_true (by first|(with_reducible assumption)|assumption)
                               obtain ⟨ad274,e274,hx274_0,hx274_1,hx274_2,hx274_3,hx274_4,hx274_5⟩:=at_T40 (Kd.R_reads' HO_16.out).2.2 x22_6 p274 q274
                               cases e274
                               replace p274:=eq_true p274
                               replace q274:=eq_true q274
                               have p276:0≤(x22_6:Int):=of_decide_eq_true (by first|(with_reducible assumption)|assumption)
                               have q276:x22_6 < (t262.length:Int):=of_decide_eq_true (by first|(with_reducible assumption)|assumption)
                               obtain ⟨ad276,e276,hx276_0,hx276_1,hx276_2,hx276_3,hx276_4,hx276_5⟩:=at_T40 (Kd.R_reads' HO_16.out).2.2 x22_6 p276 q276
                               obtain rfl:ad274=ad276:=(by injection e276)
                               replace p276:=eq_true p276
                               replace q276:=eq_true q276
                               go_wp2
                               repeat (go_quiet (fail);try go_wp2)
                               go_meet
                               case rel=>exact ⟨_,(decide ((wrap64 (x23_7+((rd_T40 t262 x22_6).f4))) > (t257.length:Int))),(by first|rfl|(simp;done)|(simp [*];done)),H',⟨by have:=HK1.out;have:=HJ22.out;have:=HJ32.out;have:=HK4.out;have:=HK5.out;have:=HK6.out;have:=HK7.out;have:=HJ59.out;first|omega|exact Nat.le_refl _⟩,⟨by (with_reducible repeat (first|apply Kd.R_alloc|apply Kd.R_drewN|apply Kd.R_drew));exact HO_14.out⟩,⟨by (with_reducible repeat (first|apply Kd.R_alloc|apply Kd.R_drewN|apply Kd.R_drew));exact HO_16.out⟩,⟨by (with_reducible repeat (first|refine blk_drewN ?_ _|refine blk_drew ?_|refine blk_alloc ?_ _));exact BK252.out⟩,⟨by repeat (first|(with_reducible first|exact HB.out|apply below_alloc|apply pw_below_drewN|apply below_drew1|refine below_set ?_ GE252.out)|exact HB.out)⟩⟩
                              ·
                               rw [if_neg c86] at H
                               have c86b0:decide (0≤x23_7)=false:=decide_eq_false c86
                               clear c86
                               have H':=Aside0.mk H
                               clear H
                               obtain ⟨Ao88,co88,eo88⟩:=Kd.R_slice HO_16.out
                               subst eo88
                               have p274:0≤(x22_6:Int):=of_decide_eq_true (by first|(with_reducible assumption)|assumption)
                               have q274:x22_6 < (t262.length:Int):=of_decide_eq_true (by first|(with_reducible assumption)|assumption)
                               obtain ⟨ad274,e274,hx274_0,hx274_1,hx274_2,hx274_3,hx274_4,hx274_5⟩:=at_T40 (Kd.R_reads' HO_16.out).2.2 x22_6 p274 q274
                               cases e274
                               replace p274:=eq_true p274
                               replace q274:=eq_true q274
                               go_wp2
                               repeat (go_quiet (fail);try go_wp2)
                               go_meet
                               case rel=>exact ⟨_,(false),(by first|rfl|(simp;done)|(simp [*];done)),H',⟨by have:=HK1.out;have:=HJ22.out;have:=HJ32.out;have:=HK4.out;have:=HK5.out;have:=HK6.out;have:=HK7.out;have:=HJ59.out;first|omega|exact Nat.le_refl _⟩,⟨by (with_reducible repeat (first|apply Kd.R_alloc|apply Kd.R_drewN|apply Kd.R_drew));exact HO_14.out⟩,⟨by (with_reducible repeat (first|apply Kd.R_alloc|apply Kd.R_drewN|apply Kd.R_drew));exact HO_16.out⟩,⟨by (with_reducible repeat (first|refine blk_drewN ?_ _|refine blk_drew ?_|refine blk_alloc ?_ _));exact BK252.out⟩,⟨by repeat (first|(with_reducible first|exact HB.out|apply below_alloc|apply pw_below_drewN|apply below_drew1|refine below_set ?_ GE252.out)|exact HB.out)⟩⟩
                            ·
                             rw [if_neg c79] at H
                             exact absurd H (by simp)
                           ·
                            rw [if_neg c78] at H
                            exact absurd H (by simp)
                          case rest => as_aux_lemma =>
                           clear HC77
                           try clear c8
                           try clear p27
                           try clear q27
                           try clear hx27
                           try clear c65
                           try clear c67
                           try clear c67b0
                           try clear c68
                           try clear c68b0
                           try clear c69
                           try clear c69b0
                           try clear c69b1
                           try clear c70
                           try clear c70b0
                           try clear c71
                           try clear c71b0
                           try clear c72
                           try clear c72b0
                           try clear c72b1
                           try clear c75
                           try clear c76
                           try clear c76b0
                           try clear c78
                           try clear c78b0
                           try clear c79
                           try clear c79b0
                           try clear c80
                           try clear c80b0
                           try clear c81
                           try clear c81b0
                           try clear c83
                           try clear c83b0
                           try clear c86
                           try clear c86b0
                           try clear hx270_0
                           try clear hx270_1
                           try clear hx270_2
                           try clear hx270_3
                           try clear hx270_4
                           try clear hx270_5
                           try clear hx271_0
                           try clear hx271_1
                           try clear hx271_2
                           try clear hx271_3
                           try clear hx271_4
                           try clear hx271_5
                           try clear hx272_0
                           try clear hx272_1
                           try clear hx272_2
                           try clear hx272_3
                           try clear hx272_4
                           try clear hx272_5
                           try clear hx273_0
                           try clear hx273_1
                           try clear hx273_2
                           try clear hx273_3
                           try clear hx273_4
                           try clear hx273_5
                           try clear hx274_0
                           try clear hx274_1
                           try clear hx274_2
                           try clear hx274_3
                           try clear hx274_4
                           try clear hx274_5
                           try clear hx275_0
                           try clear hx275_1
                           try clear hx275_2
                           try clear hx275_3
                           try clear hx275_4
                           try clear hx275_5
                           try clear hx276_0
                           try clear hx276_1
                           try clear hx276_2
                           try clear hx276_3
                           try clear hx276_4
                           try clear hx276_5
                           try clear p270
                           try clear p271
                           try clear p272
                           try clear p273
                           try clear p274
                           try clear p275
                           try clear p276
                           try clear q270
                           try clear q271
                           try clear q272
                           try clear q273
                           try clear q274
                           try clear q275
                           try clear q276
                           obtain ⟨kq,x202_76,rfl,HA,HJ76,HO_14,HO_16,BK252,HB⟩:=hcut
                           cases kq with
                           | zero=>exact absurd HA.out (by simp [parquetrylaw19_PlaceOnce.j9])
                           | succ kj76 =>
                            have H:=HA.out
                            clear HA
                            simp only [parquetrylaw19_PlaceOnce.j9] at H
                            by_cases c89:x202_76=true
                            ·
                             subst c89
                             have H1:(none)=some r:=by rw [if_pos rfl] at H;exact H
                             clear H
                             have H:=H1
                             clear H1
                             cases H
                            ·
                             replace c89:=Bool.eq_false_iff.mpr c89
                             subst c89
                             have H1:(parquetrylaw19_PlaceOnce.l5 kj76 t257 t262 x19_6 x20_5 x22_6 x23_7 1 a2_0 a2_1 a2_2 a2_3 a2_4)=some r:=by rw [if_neg (show ¬ (false=true) by decide)] at H;exact H
                             clear H
                             have H:=H1
                             clear H1
                             have H':=Aside0.mk H
                             clear H
                             go_wp2
                             repeat (go_quiet (fail);try go_wp2)
                             go_loopg [25] kj76 (fun kq v25 w'=> ∃ (x25_10:Int),v25= .int .i64 x25_10∧Aside0 (parquetrylaw19_PlaceOnce.l5 kq t257 t262 x19_6 x20_5 x22_6 x23_7 x25_10 a2_0 a2_1 a2_2 a2_3 a2_4=some r)∧Aside0 (kq≤kj76)∧Aside0 (Kd.R k42 42 w' w.heap.size (fun _=>True) (.slice Ao56 t257.length co56) t257)∧Aside0 (Kd.R k40 40 w' w.heap.size (fun _=>True) v263 t262)∧Aside0 (w'.heap[gb252]?=some (.cells #[.int .i64 a2_0,.int .i64 a2_1,.int .i64 a2_2,.int .i64 a2_3,.int .i64 a2_4] 25 (0,0)))∧Aside0 (Below w.heap.size w w'))
                             case atStart=>exact ⟨(1),(by first|rfl|(simp;done)|(simp [*];done)),H',⟨Nat.le_refl _⟩,⟨by (with_reducible repeat (first|apply Kd.R_alloc|apply Kd.R_drewN|apply Kd.R_drew));exact HO_14.out⟩,⟨by (with_reducible repeat (first|apply Kd.R_alloc|apply Kd.R_drewN|apply Kd.R_drew));exact HO_16.out⟩,⟨by (with_reducible repeat (first|refine blk_drewN ?_ _|refine blk_drew ?_|refine blk_alloc ?_ _));exact BK252.out⟩,⟨by repeat (first|(with_reducible first|exact HB.out|apply below_alloc|apply pw_below_drewN|apply below_drew1|refine below_set ?_ GE252.out)|exact HB.out)⟩⟩
                             case round => as_aux_lemma =>
                              clear H'
                              try clear c89
                              obtain ⟨x25_10,rfl,HA,HK10,HO_14,HO_16,BK252,HB⟩:=hrel
                              cases gk with
                              | zero=>exact absurd HA.out (by simp [parquetrylaw19_PlaceOnce.l5])
                              | succ k10 =>
                               have H:=HA.out
                               clear HA
                               simp only [parquetrylaw19_PlaceOnce.l5] at H
                               by_cases c90:0≤x22_6
                               ·
                                rw [if_pos c90] at H
                                have c90b0:decide (0≤x22_6)=true:=decide_eq_true c90
                                clear c90
                                by_cases c91:x22_6 < (t262.length:Int)
                                ·
                                 rw [if_pos c91] at H
                                 have c91b0:decide (x22_6 < (t262.length:Int))=true:=decide_eq_true c91
                                 clear c91
                                 by_cases c92:x25_10 < ((rd_T40 t262 x22_6).f4)
                                 ·
                                  rw [if_pos c92] at H
                                  have c92b0:decide (x25_10 < ((rd_T40 t262 x22_6).f4))=true:=decide_eq_true c92
                                  clear c92
                                  obtain ⟨ji93,hji93⟩: ∃ j_:Int,(wrap64 (x23_7+x25_10))=j_:=⟨_,rfl⟩
                                  replace H:(if 0≤(ji93) then (if (ji93) < (t257.length:Int) then (if ((rd_T42 t257 (ji93)).f0)=4 then (if ((rd_T42 t257 (ji93)).f3)=((rd_T40 t262 x22_6).f0) then (if ((rd_T42 t257 (ji93)).f4)=x25_10 then (if 0≤x23_7 then (if x23_7 < (t257.length:Int) then (if ((rd_T42 t257 (ji93)).f5)=((rd_T42 t257 x23_7).f5) then (parquetrylaw19_PlaceOnce.l5 k10 t257 t262 x19_6 x20_5 x22_6 x23_7 (wrap64 (x25_10+1)) a2_0 a2_1 a2_2 a2_3 a2_4) else (none)) else (none)) else (none)) else (none)) else (none)) else (none)) else (none)) else (none))=some r:=by first|(rw [hji93] at H;exact H)|(simp only [hji93] at H ⊢;exact H)
                                  have hji93w:(IntKind.i64.wrap (x23_7+x25_10))=ji93:=(i64_w _).trans hji93
                                  by_cases c94:0≤(ji93)
                                  ·
                                   rw [if_pos c94] at H
                                   have c94b0:decide (0≤(ji93))=true:=decide_eq_true c94
                                   clear c94
                                   by_cases c95:(ji93) < (t257.length:Int)
                                   ·
                                    rw [if_pos c95] at H
                                    have c95b0:decide ((ji93) < (t257.length:Int))=true:=decide_eq_true c95
                                    clear c95
                                    by_cases c96:((rd_T42 t257 (ji93)).f0)=4
                                    ·
                                     rw [if_pos c96] at H
                                     have c96b0:(((rd_T42 t257 (ji93)).f0)==4)=true:=beq_iff_eq.mpr c96
                                     have c96b1:(((rd_T42 t257 (ji93)).f0) !=4)=false:=bne_eq_false_iff_eq.mpr c96
                                     clear c96
                                     by_cases c97:((rd_T42 t257 (ji93)).f3)=((rd_T40 t262 x22_6).f0)
                                     ·
                                      rw [if_pos c97] at H
                                      have c97b0:(((rd_T42 t257 (ji93)).f3)==((rd_T40 t262 x22_6).f0))=true:=beq_iff_eq.mpr c97
                                      have c97b1:(((rd_T42 t257 (ji93)).f3) !=((rd_T40 t262 x22_6).f0))=false:=bne_eq_false_iff_eq.mpr c97
                                      clear c97
                                      by_cases c98:((rd_T42 t257 (ji93)).f4)=x25_10
                                      ·
                                       rw [if_pos c98] at H
                                       have c98b0:(((rd_T42 t257 (ji93)).f4)==x25_10)=true:=beq_iff_eq.mpr c98
                                       have c98b1:(((rd_T42 t257 (ji93)).f4) !=x25_10)=false:=bne_eq_false_iff_eq.mpr c98
                                       clear c98
                                       by_cases c99:0≤x23_7
                                       ·
                                        rw [if_pos c99] at H
                                        have c99b0:decide (0≤x23_7)=true:=decide_eq_true c99
                                        clear c99
                                        by_cases c100:x23_7 < (t257.length:Int)
                                        ·
                                         rw [if_pos c100] at H
                                         have c100b0:decide (x23_7 < (t257.length:Int))=true:=decide_eq_true c100
                                         clear c100
                                         by_cases c101:((rd_T42 t257 (ji93)).f5)=((rd_T42 t257 x23_7).f5)
                                         ·
                                          rw [if_pos c101] at H
                                          have c101b0:(((rd_T42 t257 (ji93)).f5)==((rd_T42 t257 x23_7).f5))=true:=beq_iff_eq.mpr c101
                                          have c101b1:(((rd_T42 t257 (ji93)).f5) !=((rd_T42 t257 x23_7).f5))=false:=bne_eq_false_iff_eq.mpr c101
                                          clear c101
                                          have H':=Aside0.mk H
                                          clear H
                                          obtain ⟨Ao102,co102,eo102⟩:=Kd.R_slice HO_16.out
                                          subst eo102
                                          have p277:0≤(x22_6:Int):=of_decide_eq_true (by first|(with_reducible assumption)|assumption)
                                          have q277:x22_6 < (t262.length:Int):=of_decide_eq_true (by first|(with_reducible assumption)|assumption)
                                          obtain ⟨ad277,e277,hx277_0,hx277_1,hx277_2,hx277_3,hx277_4,hx277_5⟩:=at_T40 (Kd.R_reads' HO_16.out).2.2 x22_6 p277 q277
                                          cases e277
                                          replace p277:=eq_true p277
                                          replace q277:=eq_true q277
                                          have p278:0≤((ji93):Int):=of_decide_eq_true (by first|(with_reducible assumption)|assumption)
                                          have q278:(ji93) < (t257.length:Int):=of_decide_eq_true (by first|(with_reducible assumption)|assumption)
                                          obtain ⟨ad278,e278,hx278_0,hx278_1,hx278_2,hx278_3,hx278_4,hx278_5⟩:=at_T42 (Kd.R_reads' HO_14.out).2.2 (ji93) p278 q278
                                          cases e278
                                          replace p278:=eq_true p278
                                          replace q278:=eq_true q278
                                          have p279:0≤((ji93):Int):=of_decide_eq_true (by first|(with_reducible assumption)|assumption)
                                          have q279:(ji93) < (t257.length:Int):=of_decide_eq_true (by first|(with_reducible assumption)|assumption)
                                          obtain ⟨ad279,e279,hx279_0,hx279_1,hx279_2,hx279_3,hx279_4,hx279_5⟩:=at_T42 (Kd.R_reads' HO_14.out).2.2 (ji93) p279 q279
                                          obtain rfl:ad278=ad279:=(by injection e279)
                                          replace p279:=eq_true p279
                                          replace q279:=eq_true q279
                                          have p280:0≤(x22_6:Int):=of_decide_eq_true (by first|(with_reducible assumption)|assumption)
                                          have q280:x22_6 < (t262.length:Int):=of_decide_eq_true (by first|(with_reducible assumption)|assumption)
                                          obtain ⟨ad280,e280,hx280_0,hx280_1,hx280_2,hx280_3,hx280_4,hx280_5⟩:=at_T40 (Kd.R_reads' HO_16.out).2.2 x22_6 p280 q280
                                          obtain rfl:ad277=ad280:=(by injection e280)
                                          replace p280:=eq_true p280
                                          replace q280:=eq_true q280
                                          have p281:0≤((ji93):Int):=of_decide_eq_true (by first|(with_reducible assumption)|assumption)
                                          have q281:(ji93) < (t257.length:Int):=of_decide_eq_true (by first|(with_reducible assumption)|assumption)
                                          obtain ⟨ad281,e281,hx281_0,hx281_1,hx281_2,hx281_3,hx281_4,hx281_5⟩:=at_T42 (Kd.R_reads' HO_14.out).2.2 (ji93) p281 q281
                                          obtain rfl:ad278=ad281:=(by injection e281)
                                          replace p281:=eq_true p281
                                          replace q281:=eq_true q281
                                          have p282:0≤((ji93):Int):=of_decide_eq_true (by first|(with_reducible assumption)|assumption)
                                          have q282:(ji93) < (t257.length:Int):=of_decide_eq_true (by first|(with_reducible assumption)|assumption)
                                          obtain ⟨ad282,e282,hx282_0,hx282_1,hx282_2,hx282_3,hx282_4,hx282_5⟩:=at_T42 (Kd.R_reads' HO_14.out).2.2 (ji93) p282 q282
                                          obtain rfl:ad278=ad282:=(by injection e282)
                                          replace p282:=eq_true p282
                                          replace q282:=eq_true q282
                                          have p283:0≤(x23_7:Int):=of_decide_eq_true (by first|(with_reducible assumption)|assumption)
                                          have q283:x23_7 < (t257.length:Int):=of_decide_eq_true (by first|(with_reducible assumption)|assumption)
                                          obtain ⟨ad283,e283,hx283_0,hx283_1,hx283_2,hx283_3,hx283_4,hx283_5⟩:=at_T42 (Kd.R_reads' HO_14.out).2.2 x23_7 p283 q283
                                          obtain rfl:ad278=ad283:=(by injection e283)
                                          replace p283:=eq_true p283
                                          replace q283:=eq_true q283
                                          go_wp2
                                          repeat (go_quiet (fail);try go_wp2)
                                          go_roundg k10
                                          case measure=>have:=HK1.out;have:=HJ22.out;have:=HJ32.out;have:=HK4.out;have:=HK5.out;have:=HK6.out;have:=HK7.out;have:=HJ59.out;have:=HJ76.out;have:=HK10.out;omega
                                          case rel=>exact ⟨(wrap64 (x25_10+1)),(by first|rfl|(simp;done)|(simp [*];done)),H',⟨by have:=HK1.out;have:=HJ22.out;have:=HJ32.out;have:=HK4.out;have:=HK5.out;have:=HK6.out;have:=HK7.out;have:=HJ59.out;have:=HJ76.out;have:=HK10.out;omega⟩,⟨by (with_reducible repeat (first|apply Kd.R_alloc|apply Kd.R_drewN|apply Kd.R_drew));exact HO_14.out⟩,⟨by (with_reducible repeat (first|apply Kd.R_alloc|apply Kd.R_drewN|apply Kd.R_drew));exact HO_16.out⟩,⟨by (with_reducible repeat (first|refine blk_drewN ?_ _|refine blk_drew ?_|refine blk_alloc ?_ _));exact BK252.out⟩,⟨by repeat (first|(with_reducible first|exact HB.out|apply below_alloc|apply pw_below_drewN|apply below_drew1|refine below_set ?_ GE252.out)|exact HB.out)⟩⟩
                                         ·
                                          rw [if_neg c101] at H
                                          have c101b0:(((rd_T42 t257 (ji93)).f5)==((rd_T42 t257 x23_7).f5))=false:=beq_eq_false_iff_ne.mpr c101
                                          have c101b1:(((rd_T42 t257 (ji93)).f5) !=((rd_T42 t257 x23_7).f5))=true:=bne_iff_ne.mpr c101
                                          cases H
                                        ·
                                         rw [if_neg c100] at H
                                         exact absurd H (by simp)
                                       ·
                                        rw [if_neg c99] at H
                                        exact absurd H (by simp)
                                      ·
                                       rw [if_neg c98] at H
                                       have c98b0:(((rd_T42 t257 (ji93)).f4)==x25_10)=false:=beq_eq_false_iff_ne.mpr c98
                                       have c98b1:(((rd_T42 t257 (ji93)).f4) !=x25_10)=true:=bne_iff_ne.mpr c98
                                       cases H
                                     ·
                                      rw [if_neg c97] at H
                                      have c97b0:(((rd_T42 t257 (ji93)).f3)==((rd_T40 t262 x22_6).f0))=false:=beq_eq_false_iff_ne.mpr c97
                                      have c97b1:(((rd_T42 t257 (ji93)).f3) !=((rd_T40 t262 x22_6).f0))=true:=bne_iff_ne.mpr c97
                                      cases H
                                    ·
                                     rw [if_neg c96] at H
                                     have c96b0:(((rd_T42 t257 (ji93)).f0)==4)=false:=beq_eq_false_iff_ne.mpr c96
                                     have c96b1:(((rd_T42 t257 (ji93)).f0) !=4)=true:=bne_iff_ne.mpr c96
                                     cases H
                                   ·
                                    rw [if_neg c95] at H
                                    exact absurd H (by simp)
                                  ·
                                   rw [if_neg c94] at H
                                   exact absurd H (by simp)
                                 ·
                                  rw [if_neg c92] at H
                                  have c92b0:decide (x25_10 < ((rd_T40 t262 x22_6).f4))=false:=decide_eq_false c92
                                  clear c92
                                  have H':=Aside0.mk H
                                  clear H
                                  obtain ⟨Ao107,co107,eo107⟩:=Kd.R_slice HO_16.out
                                  subst eo107
                                  have p277:0≤(x22_6:Int):=of_decide_eq_true (by first|(with_reducible assumption)|assumption)
                                  have q277:x22_6 < (t262.length:Int):=of_decide_eq_true (by first|(with_reducible assumption)|assumption)
                                  obtain ⟨ad277,e277,hx277_0,hx277_1,hx277_2,hx277_3,hx277_4,hx277_5⟩:=at_T40 (Kd.R_reads' HO_16.out).2.2 x22_6 p277 q277
                                  cases e277
                                  replace p277:=eq_true p277
                                  replace q277:=eq_true q277
                                  have p284:0≤(x22_6:Int):=of_decide_eq_true (by first|(with_reducible assumption)|assumption)
                                  have q284:x22_6 < (t262.length:Int):=of_decide_eq_true (by first|(with_reducible assumption)|assumption)
                                  obtain ⟨ad284,e284,hx284_0,hx284_1,hx284_2,hx284_3,hx284_4,hx284_5⟩:=at_T40 (Kd.R_reads' HO_16.out).2.2 x22_6 p284 q284
                                  obtain rfl:ad277=ad284:=(by injection e284)
                                  replace p284:=eq_true p284
                                  replace q284:=eq_true q284
                                  go_wp2
                                  repeat (go_quiet (fail);try go_wp2)
                                  go_roundg k10
                                  case measure=>have:=HK1.out;have:=HJ22.out;have:=HJ32.out;have:=HK4.out;have:=HK5.out;have:=HK6.out;have:=HK7.out;have:=HJ59.out;have:=HJ76.out;have:=HK10.out;omega
                                  case rel=>exact ⟨(wrap64 (x19_6 - ((rd_T40 t262 x22_6).f4))),(wrap64 (x22_6+1)),(by first|rfl|(simp;done)|(simp [*];done)),(by first|rfl|(simp;done)|(simp [*];done)),H',⟨by have:=HK1.out;have:=HJ22.out;have:=HJ32.out;have:=HK4.out;have:=HK5.out;have:=HK6.out;have:=HK7.out;have:=HJ59.out;have:=HJ76.out;have:=HK10.out;omega⟩,⟨by (with_reducible repeat (first|apply Kd.R_alloc|apply Kd.R_drewN|apply Kd.R_drew));exact HO_14.out⟩,⟨by (with_reducible repeat (first|apply Kd.R_alloc|apply Kd.R_drewN|apply Kd.R_drew));exact HO_16.out⟩,⟨by (with_reducible repeat (first|refine blk_drewN ?_ _|refine blk_drew ?_|refine blk_alloc ?_ _));exact BK252.out⟩,⟨by repeat (first|(with_reducible first|exact HB.out|apply below_alloc|apply pw_below_drewN|apply below_drew1|refine below_set ?_ GE252.out)|exact HB.out)⟩⟩
                                ·
                                 rw [if_neg c91] at H
                                 exact absurd H (by simp)
                               ·
                                rw [if_neg c90] at H
                                exact absurd H (by simp)
                    ·
                     rw [if_neg c58] at H
                     have c58b0:decide (x22_6 < a2_2)=false:=decide_eq_false c58
                     clear c58
                     by_cases c108:x19_6=0
                     ·
                      rw [if_pos c108] at H
                      have c108b0:(x19_6==0)=true:=beq_iff_eq.mpr c108
                      have c108b1:(x19_6 !=0)=false:=bne_eq_false_iff_eq.mpr c108
                      clear c108
                      by_cases c109:((x20_5==1)==(a2_4==1))=true
                      ·
                       rw [if_pos c109] at H
                       have c109b0:((x20_5==1)==(a2_4==1))=true:=c109
                       (try (have c109b1:decide ((x20_5==1)=(a2_4==1))=true:=by simpa using c109))
                       (try (have c109b2:((x20_5==1)==(a2_4==1))=true:=by simpa using c109))
                       clear c109
                       by_cases c110:x20_5≤1
                       ·
                        rw [if_pos c110] at H
                        have c110b0:decide (x20_5≤1)=true:=decide_eq_true c110
                        clear c110
                        replace H:=Option.bind_eq_some_iff.mp H
                        obtain ⟨t268,A1110,H⟩:=H
                        replace H:(some t268)=some r:=H
                        have A111:=Aside0.mk A1110
                        clear A1110
                        obtain rfl:=Option.some.inj H
                        have hcz112_0:wr.cell? ⟨gb252,0,none⟩=some (.int .i64 a2_0):=(blk_cell BK252.out 0).trans rfl
                        have hcz112_1:wr.cell? ⟨gb252,1,none⟩=some (.int .i64 a2_1):=(blk_cell BK252.out 1).trans rfl
                        have hcz112_2:wr.cell? ⟨gb252,2,none⟩=some (.int .i64 a2_2):=(blk_cell BK252.out 2).trans rfl
                        have hcz112_3:wr.cell? ⟨gb252,3,none⟩=some (.int .i64 a2_3):=(blk_cell BK252.out 3).trans rfl
                        have hcz112_4:wr.cell? ⟨gb252,4,none⟩=some (.int .i64 a2_4):=(blk_cell BK252.out 4).trans rfl
                        have hfz112_0:=blk_frozen BK252.out 0
                        have hfz112_1:=blk_frozen BK252.out 1
                        have hfz112_2:=blk_frozen BK252.out 2
                        have hfz112_3:=blk_frozen BK252.out 3
                        have hfz112_4:=blk_frozen BK252.out 4
                        go_wp2_with (first|(go_at_call 7;(with_reducible refine (parquetrylaw19_awake.calls k6 t268 _ A111.out).mono ?_);rintro e w113 ⟨rfl,hb⟩;have n0_:=Aside0.mk (Kd.R_below (by (with_reducible repeat (first|apply Kd.R_alloc|apply Kd.R_drewN|apply Kd.R_drew));exact HO_14.out) hb);have n1_:=Aside0.mk (Kd.R_below (by (with_reducible repeat (first|apply Kd.R_alloc|apply Kd.R_drewN|apply Kd.R_drew));exact HO_16.out) hb);have n2_:=Aside0.mk (blk_below (g:=gb252) (o:= .cells #[.int .i64 a2_0,.int .i64 a2_1,.int .i64 a2_2,.int .i64 a2_3,.int .i64 a2_4] 25 (0,0)) (by (with_reducible repeat (first|refine blk_drewN ?_ _|refine blk_drew ?_|refine blk_alloc ?_ _));exact BK252.out) hb);have n3_:=Aside0.mk (below_step (by repeat (first|(with_reducible first|exact HB.out|apply below_alloc|apply pw_below_drewN|apply below_drew1|refine below_set ?_ GE252.out)|exact HB.out)) hb);clear HO_14;clear HO_16;clear BK252;clear HB;have HO_14:=n0_;have HO_16:=n1_;have BK252:=n2_;have HB:=n3_;clear n0_ n1_ n2_ n3_;(try clear hb);(try clear hb2);(try clear hk);(try clear hi)))
                        repeat (go_quiet (first|(go_at_call 7;(with_reducible refine (parquetrylaw19_awake.calls k6 t268 _ A111.out).mono ?_);rintro e w113 ⟨rfl,hb⟩;have n0_:=Aside0.mk (Kd.R_below (by (with_reducible repeat (first|apply Kd.R_alloc|apply Kd.R_drewN|apply Kd.R_drew));exact HO_14.out) hb);have n1_:=Aside0.mk (Kd.R_below (by (with_reducible repeat (first|apply Kd.R_alloc|apply Kd.R_drewN|apply Kd.R_drew));exact HO_16.out) hb);have n2_:=Aside0.mk (blk_below (g:=gb252) (o:= .cells #[.int .i64 a2_0,.int .i64 a2_1,.int .i64 a2_2,.int .i64 a2_3,.int .i64 a2_4] 25 (0,0)) (by (with_reducible repeat (first|refine blk_drewN ?_ _|refine blk_drew ?_|refine blk_alloc ?_ _));exact BK252.out) hb);have n3_:=Aside0.mk (below_step (by repeat (first|(with_reducible first|exact HB.out|apply below_alloc|apply pw_below_drewN|apply below_drew1|refine below_set ?_ GE252.out)|exact HB.out)) hb);clear HO_14;clear HO_16;clear BK252;clear HB;have HO_14:=n0_;have HO_16:=n1_;have BK252:=n2_;have HB:=n3_;clear n0_ n1_ n2_ n3_;(try clear hb);(try clear hb2);(try clear hk);(try clear hi)));try go_wp2_with (first|(go_at_call 7;(with_reducible refine (parquetrylaw19_awake.calls k6 t268 _ A111.out).mono ?_);rintro e w113 ⟨rfl,hb⟩;have n0_:=Aside0.mk (Kd.R_below (by (with_reducible repeat (first|apply Kd.R_alloc|apply Kd.R_drewN|apply Kd.R_drew));exact HO_14.out) hb);have n1_:=Aside0.mk (Kd.R_below (by (with_reducible repeat (first|apply Kd.R_alloc|apply Kd.R_drewN|apply Kd.R_drew));exact HO_16.out) hb);have n2_:=Aside0.mk (blk_below (g:=gb252) (o:= .cells #[.int .i64 a2_0,.int .i64 a2_1,.int .i64 a2_2,.int .i64 a2_3,.int .i64 a2_4] 25 (0,0)) (by (with_reducible repeat (first|refine blk_drewN ?_ _|refine blk_drew ?_|refine blk_alloc ?_ _));exact BK252.out) hb);have n3_:=Aside0.mk (below_step (by repeat (first|(with_reducible first|exact HB.out|apply below_alloc|apply pw_below_drewN|apply below_drew1|refine below_set ?_ GE252.out)|exact HB.out)) hb);clear HO_14;clear HO_16;clear BK252;clear HB;have HO_14:=n0_;have HO_16:=n1_;have BK252:=n2_;have HB:=n3_;clear n0_ n1_ n2_ n3_;(try clear hb);(try clear hb2);(try clear hk);(try clear hi))))
                        go_ret
                        exact ⟨by first|rfl|(simp [errW_none,errW_some] <;> rfl)|(simp [*,errW_none,errW_some] <;> rfl),by repeat (first|(with_reducible first|exact HB.out|apply below_alloc|apply pw_below_drewN|apply below_drew1|refine below_set ?_ GE252.out)|exact HB.out)⟩
                       ·
                        rw [if_neg c110] at H
                        have c110b0:decide (x20_5≤1)=false:=decide_eq_false c110
                        clear c110
                        cases H
                      ·
                       rw [if_neg c109] at H
                       have c109b0:((x20_5==1)==(a2_4==1))=false:=by simpa using c109
                       (try (have c109b1:decide ((x20_5==1)=(a2_4==1))=false:=by simpa using c109))
                       (try (have c109b2:((x20_5==1)==(a2_4==1))=false:=by simpa using c109))
                       (try (have c109b3: ¬ ((x20_5==1)=(a2_4==1)):=by simpa using c109))
                       clear c109
                       cases H
                     ·
                      rw [if_neg c108] at H
                      have c108b0:(x19_6==0)=false:=beq_eq_false_iff_ne.mpr c108
                      have c108b1:(x19_6 !=0)=true:=bne_iff_ne.mpr c108
                      cases H
     ·
      rw [if_neg c21] at H
      have c21b0:(t260==0)=false:=beq_eq_false_iff_ne.mpr c21
      have c21b1:(t260 !=0)=true:=bne_iff_ne.mpr c21
      by_cases c117:(t257.length:Int)=0
      ·
       rw [if_pos c117] at H
       have c117b0:((t257.length:Int)==0)=true:=beq_iff_eq.mpr c117
       have c117b1:((t257.length:Int) !=0)=false:=bne_eq_false_iff_eq.mpr c117
       clear c117
       replace H:=Option.bind_eq_some_iff.mp H
       obtain ⟨t261,A1180,H⟩:=H
       replace H:(some t261)=some r:=H
       have A118:=Aside0.mk A1180
       clear A1180
       obtain rfl:=Option.some.inj H
       have hcz119_0:wr.cell? ⟨gb252,0,none⟩=some (.int .i64 a2_0):=(blk_cell BK252.out 0).trans rfl
       have hcz119_1:wr.cell? ⟨gb252,1,none⟩=some (.int .i64 a2_1):=(blk_cell BK252.out 1).trans rfl
       have hcz119_2:wr.cell? ⟨gb252,2,none⟩=some (.int .i64 a2_2):=(blk_cell BK252.out 2).trans rfl
       have hcz119_3:wr.cell? ⟨gb252,3,none⟩=some (.int .i64 a2_3):=(blk_cell BK252.out 3).trans rfl
       have hcz119_4:wr.cell? ⟨gb252,4,none⟩=some (.int .i64 a2_4):=(blk_cell BK252.out 4).trans rfl
       have hfz119_0:=blk_frozen BK252.out 0
       have hfz119_1:=blk_frozen BK252.out 1
       have hfz119_2:=blk_frozen BK252.out 2
       have hfz119_3:=blk_frozen BK252.out 3
       have hfz119_4:=blk_frozen BK252.out 4
       go_wp2_with (first|(go_at_call 8;(with_reducible refine (place_Slots.calls k1 _ _ l0 _ _ l1 a2_0 a2_1 a2_2 a2_3 a2_4 a3 a4 a5 t257 t260 _ ?side1 ?side2 ?side3 ?side4 A20.out).mono ?_);(case side1=>repeat (first|exact (Kd.C_below HR0.out HB.out)|(with_reducible refine Kd.C_alloc ?_ _)|(with_reducible refine Kd.C_drewN ?_ _)|(with_reducible refine Kd.C_drew ?_)));(case side2=>exact HC0.out);(case side3=>repeat (first|exact (Kd.C_below HR1.out HB.out)|(with_reducible refine Kd.C_alloc ?_ _)|(with_reducible refine Kd.C_drewN ?_ _)|(with_reducible refine Kd.C_drew ?_)));(case side4=>exact HC1.out);rintro e w120 ⟨v258,rfl,ho0,hb⟩;have n0_:=Aside0.mk (Kd.R_lower ho0 (below_size (by repeat (first|(with_reducible first|exact HB.out|apply below_alloc|apply pw_below_drewN|apply below_drew1|refine below_set ?_ GE252.out)|exact HB.out))));have n1_:=Aside0.mk (blk_below (g:=gb252) (o:= .cells #[.int .i64 a2_0,.int .i64 a2_1,.int .i64 a2_2,.int .i64 a2_3,.int .i64 a2_4] 25 (0,0)) (by (with_reducible repeat (first|refine blk_drewN ?_ _|refine blk_drew ?_|refine blk_alloc ?_ _));exact BK252.out) hb);have n2_:=Aside0.mk (below_step (by repeat (first|(with_reducible first|exact HB.out|apply below_alloc|apply pw_below_drewN|apply below_drew1|refine below_set ?_ GE252.out)|exact HB.out)) hb);clear BK252;clear HB;have HO259:=n0_;have BK252:=n1_;have HB:=n2_;clear n0_ n1_ n2_;(try clear hb);(try clear hb2);(try clear hk);(try clear hi);(try clear ho0);obtain ⟨Ao121,co121,eo121⟩:=Kd.R_slice HO259.out;subst eo121)|(go_at_call 7;(with_reducible refine (parquetrylaw19_awake.calls k1 t261 _ A118.out).mono ?_);rintro e w122 ⟨rfl,hb⟩;have n0_:=Aside0.mk (Kd.R_below (by (with_reducible repeat (first|apply Kd.R_alloc|apply Kd.R_drewN|apply Kd.R_drew));exact HO259.out) hb);have n1_:=Aside0.mk (blk_below (g:=gb252) (o:= .cells #[.int .i64 a2_0,.int .i64 a2_1,.int .i64 a2_2,.int .i64 a2_3,.int .i64 a2_4] 25 (0,0)) (by (with_reducible repeat (first|refine blk_drewN ?_ _|refine blk_drew ?_|refine blk_alloc ?_ _));exact BK252.out) hb);have n2_:=Aside0.mk (below_step (by repeat (first|(with_reducible first|exact HB.out|apply below_alloc|apply pw_below_drewN|apply below_drew1|refine below_set ?_ GE252.out)|exact HB.out)) hb);clear HO259;clear BK252;clear HB;have HO259:=n0_;have BK252:=n1_;have HB:=n2_;clear n0_ n1_ n2_;(try clear hb);(try clear hb2);(try clear hk);(try clear hi)))
       repeat (go_quiet (first|(go_at_call 8;(with_reducible refine (place_Slots.calls k1 _ _ l0 _ _ l1 a2_0 a2_1 a2_2 a2_3 a2_4 a3 a4 a5 t257 t260 _ ?side1 ?side2 ?side3 ?side4 A20.out).mono ?_);(case side1=>repeat (first|exact (Kd.C_below HR0.out HB.out)|(with_reducible refine Kd.C_alloc ?_ _)|(with_reducible refine Kd.C_drewN ?_ _)|(with_reducible refine Kd.C_drew ?_)));(case side2=>exact HC0.out);(case side3=>repeat (first|exact (Kd.C_below HR1.out HB.out)|(with_reducible refine Kd.C_alloc ?_ _)|(with_reducible refine Kd.C_drewN ?_ _)|(with_reducible refine Kd.C_drew ?_)));(case side4=>exact HC1.out);rintro e w120 ⟨v258,rfl,ho0,hb⟩;have n0_:=Aside0.mk (Kd.R_lower ho0 (below_size (by repeat (first|(with_reducible first|exact HB.out|apply below_alloc|apply pw_below_drewN|apply below_drew1|refine below_set ?_ GE252.out)|exact HB.out))));have n1_:=Aside0.mk (blk_below (g:=gb252) (o:= .cells #[.int .i64 a2_0,.int .i64 a2_1,.int .i64 a2_2,.int .i64 a2_3,.int .i64 a2_4] 25 (0,0)) (by (with_reducible repeat (first|refine blk_drewN ?_ _|refine blk_drew ?_|refine blk_alloc ?_ _));exact BK252.out) hb);have n2_:=Aside0.mk (below_step (by repeat (first|(with_reducible first|exact HB.out|apply below_alloc|apply pw_below_drewN|apply below_drew1|refine below_set ?_ GE252.out)|exact HB.out)) hb);clear BK252;clear HB;have HO259:=n0_;have BK252:=n1_;have HB:=n2_;clear n0_ n1_ n2_;(try clear hb);(try clear hb2);(try clear hk);(try clear hi);(try clear ho0);obtain ⟨Ao121,co121,eo121⟩:=Kd.R_slice HO259.out;subst eo121)|(go_at_call 7;(with_reducible refine (parquetrylaw19_awake.calls k1 t261 _ A118.out).mono ?_);rintro e w122 ⟨rfl,hb⟩;have n0_:=Aside0.mk (Kd.R_below (by (with_reducible repeat (first|apply Kd.R_alloc|apply Kd.R_drewN|apply Kd.R_drew));exact HO259.out) hb);have n1_:=Aside0.mk (blk_below (g:=gb252) (o:= .cells #[.int .i64 a2_0,.int .i64 a2_1,.int .i64 a2_2,.int .i64 a2_3,.int .i64 a2_4] 25 (0,0)) (by (with_reducible repeat (first|refine blk_drewN ?_ _|refine blk_drew ?_|refine blk_alloc ?_ _));exact BK252.out) hb);have n2_:=Aside0.mk (below_step (by repeat (first|(with_reducible first|exact HB.out|apply below_alloc|apply pw_below_drewN|apply below_drew1|refine below_set ?_ GE252.out)|exact HB.out)) hb);clear HO259;clear BK252;clear HB;have HO259:=n0_;have BK252:=n1_;have HB:=n2_;clear n0_ n1_ n2_;(try clear hb);(try clear hb2);(try clear hk);(try clear hi)));try go_wp2_with (first|(go_at_call 8;(with_reducible refine (place_Slots.calls k1 _ _ l0 _ _ l1 a2_0 a2_1 a2_2 a2_3 a2_4 a3 a4 a5 t257 t260 _ ?side1 ?side2 ?side3 ?side4 A20.out).mono ?_);(case side1=>repeat (first|exact (Kd.C_below HR0.out HB.out)|(with_reducible refine Kd.C_alloc ?_ _)|(with_reducible refine Kd.C_drewN ?_ _)|(with_reducible refine Kd.C_drew ?_)));(case side2=>exact HC0.out);(case side3=>repeat (first|exact (Kd.C_below HR1.out HB.out)|(with_reducible refine Kd.C_alloc ?_ _)|(with_reducible refine Kd.C_drewN ?_ _)|(with_reducible refine Kd.C_drew ?_)));(case side4=>exact HC1.out);rintro e w120 ⟨v258,rfl,ho0,hb⟩;have n0_:=Aside0.mk (Kd.R_lower ho0 (below_size (by repeat (first|(with_reducible first|exact HB.out|apply below_alloc|apply pw_below_drewN|apply below_drew1|refine below_set ?_ GE252.out)|exact HB.out))));have n1_:=Aside0.mk (blk_below (g:=gb252) (o:= .cells #[.int .i64 a2_0,.int .i64 a2_1,.int .i64 a2_2,.int .i64 a2_3,.int .i64 a2_4] 25 (0,0)) (by (with_reducible repeat (first|refine blk_drewN ?_ _|refine blk_drew ?_|refine blk_alloc ?_ _));exact BK252.out) hb);have n2_:=Aside0.mk (below_step (by repeat (first|(with_reducible first|exact HB.out|apply below_alloc|apply pw_below_drewN|apply below_drew1|refine below_set ?_ GE252.out)|exact HB.out)) hb);clear BK252;clear HB;have HO259:=n0_;have BK252:=n1_;have HB:=n2_;clear n0_ n1_ n2_;(try clear hb);(try clear hb2);(try clear hk);(try clear hi);(try clear ho0);obtain ⟨Ao121,co121,eo121⟩:=Kd.R_slice HO259.out;subst eo121)|(go_at_call 7;(with_reducible refine (parquetrylaw19_awake.calls k1 t261 _ A118.out).mono ?_);rintro e w122 ⟨rfl,hb⟩;have n0_:=Aside0.mk (Kd.R_below (by (with_reducible repeat (first|apply Kd.R_alloc|apply Kd.R_drewN|apply Kd.R_drew));exact HO259.out) hb);have n1_:=Aside0.mk (blk_below (g:=gb252) (o:= .cells #[.int .i64 a2_0,.int .i64 a2_1,.int .i64 a2_2,.int .i64 a2_3,.int .i64 a2_4] 25 (0,0)) (by (with_reducible repeat (first|refine blk_drewN ?_ _|refine blk_drew ?_|refine blk_alloc ?_ _));exact BK252.out) hb);have n2_:=Aside0.mk (below_step (by repeat (first|(with_reducible first|exact HB.out|apply below_alloc|apply pw_below_drewN|apply below_drew1|refine below_set ?_ GE252.out)|exact HB.out)) hb);clear HO259;clear BK252;clear HB;have HO259:=n0_;have BK252:=n1_;have HB:=n2_;clear n0_ n1_ n2_;(try clear hb);(try clear hb2);(try clear hk);(try clear hi))))
       go_ret
       exact ⟨by first|rfl|(simp [errW_none,errW_some] <;> rfl)|(simp [*,errW_none,errW_some] <;> rfl),by repeat (first|(with_reducible first|exact HB.out|apply below_alloc|apply pw_below_drewN|apply below_drew1|refine below_set ?_ GE252.out)|exact HB.out)⟩
      ·
       rw [if_neg c117] at H
       have c117b0:((t257.length:Int)==0)=false:=beq_eq_false_iff_ne.mpr c117
       have c117b1:((t257.length:Int) !=0)=true:=bne_iff_ne.mpr c117
       have c117b2: ¬ (t257=[]):=fun h_=>c117 (by rw [h_];rfl)
       cases H
def parquetrylaw19_PlaceOnce.Pure:Prop:= ∀ (l0:List (S36)) (l1:List Int) (a2_0:Int) (a2_1:Int) (a2_2:Int) (a2_3:Int) (a2_4:Int) (a3:Int) (a4:Int) (a5:Int),l0.length≤maxLen→l0.length * 24≤140737488351232→(∀ x ∈ l0,(Lit.int .i64 x.f0).wf=true∧(Lit.int .i64 x.f1).wf=true∧(Lit.int .i64 x.f2).wf=true)→l1.length≤maxLen→l1.length * 8≤140737488351232→(∀ x ∈ l1,(Lit.int .i64 x).wf=true)→(Lit.int .i64 a2_0).wf=true→(Lit.int .i64 a2_1).wf=true→(Lit.int .i64 a2_2).wf=true→(Lit.int .i64 a2_3).wf=true→(Lit.int .i64 a2_4).wf=true→(Lit.int .i64 a3).wf=true→(Lit.int .i64 a4).wf=true→(Lit.int .i64 a5).wf=true→ ∃ k,parquetrylaw19_PlaceOnce.f k l0 l1 a2_0 a2_1 a2_2 a2_3 a2_4 a3 a4 a5=some true
theorem parquetrylaw19_PlaceOnce.walk (P:parquetrylaw19_PlaceOnce.Pure) (a0:Option Addr) (cap0:Nat) (l0:List (S36)) (a1:Option Addr) (len1 cap1:Nat) (z1:List Int) (a2_0:Int) (a2_1:Int) (a2_2:Int) (a2_3:Int) (a2_4:Int) (a3:Int) (a4:Int) (a5:Int) (w:World) (hr0:Kd.C k36 w a0 l0.length l0) (hc0:l0.length≤cap0) (hm0:l0.length≤maxLen) (y0:l0.length * 24≤140737488351232) (hw0: ∀ x ∈ l0,(Lit.int .i64 x.f0).wf=true∧(Lit.int .i64 x.f1).wf=true∧(Lit.int .i64 x.f2).wf=true) (w1:(a1=none∧len1=0∧cap1=0∧z1=[])∨ ∃ x,a1=some x∧len1≤cap1∧cap1≤maxLen∧z1.length=cap1∧(∀ i,i < z1.length→w.cell? (x.add i)=some (.int .i64 (z1.getD i 0)))∧ ∀ n ∈ z1,(Lit.int .i64 n).wf=true) (y1:len1 * 8≤140737488351232) (w2_0:(Lit.int .i64 a2_0).wf=true) (w2_1:(Lit.int .i64 a2_1).wf=true) (w2_2:(Lit.int .i64 a2_2).wf=true) (w2_3:(Lit.int .i64 a2_3).wf=true) (w2_4:(Lit.int .i64 a2_4).wf=true) (w3:(Lit.int .i64 a3).wf=true) (w4:(Lit.int .i64 a4).wf=true) (w5:(Lit.int .i64 a5).wf=true) :
    Calls Try.prog 4 #[.slice a0 l0.length cap0,.slice a1 len1 cap1,.agg #[.int .i64 a2_0,.int .i64 a2_1,.int .i64 a2_2,.int .i64 a2_3,.int .i64 a2_4],.int .i64 a3,.int .i64 a4,.int .i64 a5] w fun e w'=>e= .returned (.bool true)∧Below w.heap.size w w':=by
  obtain ⟨l1,rfl,hr1,hm1,hw1,hc1⟩:=ReadsInt.ofRowC w1
  obtain ⟨k,h⟩:=P l0 l1 a2_0 a2_1 a2_2 a2_3 a2_4 a3 a4 a5 hm0 y0 hw0 hm1 y1 hw1 w2_0 w2_1 w2_2 w2_3 w2_4 w3 w4 w5
  refine (parquetrylaw19_PlaceOnce.calls k _ _ l0 _ _ l1 a2_0 a2_1 a2_2 a2_3 a2_4 a3 a4 a5 true w hr0 hc0 (Kd.C_of_reads (d:=(0:Int)) (h1:=fun _=>rfl) hr1) hc1 h).mono ?_
  rintro e w' ⟨rfl,hd⟩
  exact ⟨rfl,hd⟩
end Go.Proofs.Yteoaegigjlhamaa.PC19
