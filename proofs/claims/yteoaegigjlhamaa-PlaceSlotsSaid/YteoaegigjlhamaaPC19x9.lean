/- Chapter 19, printed: what the functions compute, and proofs that they do. -/
import Derived.Test.YteoaegigjlhamaaPC19x0
import Derived.Test.YteoaegigjlhamaaPC19x8
namespace Go.Proofs.Yteoaegigjlhamaa.PC19
open Go.RowKit Go.Proofs.YteoaegigjlhamaaW.PrintWords Go.Proofs.YteoaegigjlhamaaW.PrintLast Go.Proofs.YteoaegigjlhamaaW.PrintMore
attribute [local go_sem] max2_int min2_int max_two min_two max_three min_three max_four min_four
set_option linter.unusedVariables false
set_option maxRecDepth 100000
set_option linter.unusedSimpArgs false
mutual
def q06_Joins.j0:Nat→List Int→Int→Int→Int→Bool→Option (Bool)
 | 0,_,_,_,_,_=>none
 | k+1,x0,x1,x5,x6,x26=>if x26=true then (some true) else ((q06_alone.f x5).bind fun t266=>(if t266=true then (q06_Joins.j1 k x0 x1 x5 x6 false) else ((q06_alone.f x6).bind fun t267=>(if t267=true then (q06_Joins.j1 k x0 x1 x5 x6 false) else (if x6=4 then (q06_Joins.j1 k x0 x1 x5 x6 true) else (if x6=5 then (q06_Joins.j1 k x0 x1 x5 x6 true) else (if x6=8 then (q06_Joins.j1 k x0 x1 x5 x6 true) else (q06_Joins.j1 k x0 x1 x5 x6 (x5==7)))))))))
def q06_Joins.j1:Nat→List Int→Int→Int→Int→Bool→Option (Bool)
 | 0,_,_,_,_,_=>none
 | k+1,x0,x1,x5,x6,x50=>if x50=true then (some true) else ((q06_syllable.f x5 x6).bind fun t268=>(if t268=true then (some true) else (if x5=5 then (if 0≤x1 then (if x1 < (x0.length:Int) then ((q05_Pict.f k (rd x0 x1)).bind fun t270=>(q06_Joins.j2 k x0 x1 x5 x6 t270)) else (none)) else (none)) else (q06_Joins.j2 k x0 x1 x5 x6 false))))
def q06_Joins.j2:Nat→List Int→Int→Int→Int→Bool→Option (Bool)
 | 0,_,_,_,_,_=>none
 | k+1,x0,x1,x5,x6,x62=>if x62=true then (q06_Joins.l0 k x0 x1 x5 x6 (wrap64 (x1 - 2))) else (q06_Joins.j4 k x0 x1 x5 x6)
def q06_Joins.j4:Nat→List Int→Int→Int→Int→Option (Bool)
 | 0,_,_,_,_=>none
 | k+1,x0,x1,x5,x6=>if x5=6 then (q06_Joins.j5 k x0 x1 (x6==6)) else (q06_Joins.j5 k x0 x1 false)
def q06_Joins.j5:Nat→List Int→Int→Bool→Option (Bool)
 | 0,_,_,_=>none
 | k+1,x0,x1,x91=>if x91=true then (q06_Joins.l1 k x0 0 (wrap64 (x1 - 2))) else (some false)
def q06_Joins.l1:Nat→List Int→Int→Int→Option (Bool)
 | 0,_,_,_=>none
 | k+1,x0,x8,x9=>if x9≥0 then (if 0≤x9 then (if x9 < (x0.length:Int) then ((q05_Of.f k (rd x0 x9)).bind fun t276=>(if t276=6 then (q06_Joins.l1 k x0 (wrap64 (x8+1)) (wrap64 (x9 - 1))) else (some ((Int.tmod x8 2)==0)))) else (none)) else (none)) else (some ((Int.tmod x8 2)==0))
def q06_Joins.l0:Nat→List Int→Int→Int→Int→Int→Option (Bool)
 | 0,_,_,_,_,_=>none
 | k+1,x0,x1,x5,x6,x7=>if x7≥0 then (if 0≤x7 then (if x7 < (x0.length:Int) then ((q05_Of.f k (rd x0 x7)).bind fun t272=>(if t272=4 then (q06_Joins.l0 k x0 x1 x5 x6 (wrap64 (x7 - 1))) else ((q05_Pict.f k (rd x0 x7)).bind fun t274=>(if t274=true then (some true) else (q06_Joins.j4 k x0 x1 x5 x6))))) else (none)) else (none)) else (q06_Joins.j4 k x0 x1 x5 x6)
end
def q06_Joins.f (k:Nat) (l0:List Int) (a1:Int):Option (Bool):=if 0≤(wrap64 (a1 - 1)) then (if (wrap64 (a1 - 1)) < (l0.length:Int) then ((q05_Of.f k (rd l0 (wrap64 (a1 - 1)))).bind fun t263=>(if 0≤a1 then (if a1 < (l0.length:Int) then ((q05_Of.f k (rd l0 a1)).bind fun t265=>(if t263=1 then (q06_Joins.j0 k l0 a1 t263 t265 (t265==2)) else (q06_Joins.j0 k l0 a1 t263 t265 false))) else (none)) else (none))) else (none)) else (none)
theorem q06_Joins.mono_l: ∀ k,(∀ y0 y1 y2 y3 y4,LeO (q06_Joins.j0 k y0 y1 y2 y3 y4) (q06_Joins.j0 (k+1) y0 y1 y2 y3 y4))∧(∀ y0 y1 y2 y3 y4,LeO (q06_Joins.j1 k y0 y1 y2 y3 y4) (q06_Joins.j1 (k+1) y0 y1 y2 y3 y4))∧(∀ y0 y1 y2 y3 y4,LeO (q06_Joins.j2 k y0 y1 y2 y3 y4) (q06_Joins.j2 (k+1) y0 y1 y2 y3 y4))∧(∀ y0 y1 y2 y3,LeO (q06_Joins.j4 k y0 y1 y2 y3) (q06_Joins.j4 (k+1) y0 y1 y2 y3))∧(∀ y0 y1 y2,LeO (q06_Joins.j5 k y0 y1 y2) (q06_Joins.j5 (k+1) y0 y1 y2))∧(∀ y0 y1 y2,LeO (q06_Joins.l1 k y0 y1 y2) (q06_Joins.l1 (k+1) y0 y1 y2))∧(∀ y0 y1 y2 y3 y4,LeO (q06_Joins.l0 k y0 y1 y2 y3 y4) (q06_Joins.l0 (k+1) y0 y1 y2 y3 y4))
 | 0=>⟨fun _ _ _ _ _ r h=>by simp [q06_Joins.j0] at h,fun _ _ _ _ _ r h=>by simp [q06_Joins.j1] at h,fun _ _ _ _ _ r h=>by simp [q06_Joins.j2] at h,fun _ _ _ _ r h=>by simp [q06_Joins.j4] at h,fun _ _ _ r h=>by simp [q06_Joins.j5] at h,fun _ _ _ r h=>by simp [q06_Joins.l1] at h,fun _ _ _ _ _ r h=>by simp [q06_Joins.l0] at h⟩
 | k+1=>by
  obtain ⟨ih0,ih1,ih2,ih3,ih4,ih5,ih6⟩:=q06_Joins.mono_l k
  refine ⟨?_,?_,?_,?_,?_,?_,?_⟩
  ·
   intros
   unfold q06_Joins.j0
   have j0:=@q05_Of.mono
   have j1:=@q05_Pict.mono
   exact TL
  ·
   intros
   unfold q06_Joins.j1
   have j0:=@q05_Of.mono
   have j1:=@q05_Pict.mono
   exact TL
  ·
   intros
   unfold q06_Joins.j2
   have j0:=@q05_Of.mono
   have j1:=@q05_Pict.mono
   exact TL
  ·
   intros
   unfold q06_Joins.j4
   have j0:=@q05_Of.mono
   have j1:=@q05_Pict.mono
   exact TL
  ·
   intros
   unfold q06_Joins.j5
   have j0:=@q05_Of.mono
   have j1:=@q05_Pict.mono
   exact TL
  ·
   intros
   unfold q06_Joins.l1
   have j0:=@q05_Of.mono
   have j1:=@q05_Pict.mono
   exact TL
  ·
   intros
   unfold q06_Joins.l0
   have j0:=@q05_Of.mono
   have j1:=@q05_Pict.mono
   exact TL
theorem q06_Joins.mono: ∀ a0 a1 k,LeO (q06_Joins.f k a0 a1) (q06_Joins.f (k+1) a0 a1):=by
 intro a0 a1 k
 obtain ⟨ih0,ih1,ih2,ih3,ih4,ih5,ih6⟩:=q06_Joins.mono_l k
 unfold q06_Joins.f
 repeat' first
   | (with_reducible exact ih0 _ _ _ _ _)
   | (with_reducible exact ih1 _ _ _ _ _)
   | (with_reducible exact ih2 _ _ _ _ _)
   | (with_reducible exact ih3 _ _ _ _)
   | (with_reducible exact ih4 _ _ _)
   | (with_reducible exact ih5 _ _ _)
   | (with_reducible exact ih6 _ _ _ _ _)
   | (with_reducible exact q05_Of.mono _ _)
   | (with_reducible exact q05_Pict.mono _ _)
   | (with_reducible exact LeO.refl _)
   | (with_reducible exact LeO.none _)
   | (with_reducible refine LeO.ite ?_ ?_)
   | (with_reducible refine LeO.bind ?_ (fun _=>?_))
def q06_Joins.T1:Bool × List (List Nat × List Nat):=(true,[([],[]),([],[]),([1],[1]),([0,2],[0,2]),([3],[3]),([4],[4]),([],[]),([],[]),([6,7],[6,7]),([8],[8]),([9,5],[9]),([5,10,0,1,2,3,4,5],[5]),([10,11,0,1,2,3,4,5,6,7,8,9,10,11],[10])])
def q06_Joins.B1:List Nat:=[0,0,2,7,15,31,0,0,192,448,1023,2047,4095]
theorem q06_Joins.tab1:rtab .any (opsOf Try.f38 1)=q06_Joins.T1:=by kernel_rfl
theorem q06_Joins.bits1:waitsOk q06_Joins.T1.2 q06_Joins.B1=true:=by kernel_rfl
set_option maxHeartbeats 8000000 in
theorem q06_Joins.calls (k:Nat) (A0:Option Addr) (c0:Nat) (l0:List Int) (a1:Int) (r:Bool) (w:World) (hr0:Kd.C (Kd.int .i64) w A0 l0.length l0) (hc0:l0.length≤c0) (h:q06_Joins.f k l0 a1=some r) :
  Calls Try.prog 38 #[.slice A0 l0.length c0,.int .i64 a1] w fun e w'=>e= .returned (.bool r)∧Below w.heap.size w w':=by
 have HR0:=Am hr0
 have HC0:=Am hc0
 clear hr0 hc0
 have HB:=Am (Below.refl w.heap.size w)
 have H:(if 0≤(wrap64 (a1 - 1)) then (if (wrap64 (a1 - 1)) < (l0.length:Int) then ((q05_Of.f k (rd l0 (wrap64 (a1 - 1)))).bind fun t263=>(if 0≤a1 then (if a1 < (l0.length:Int) then ((q05_Of.f k (rd l0 a1)).bind fun t265=>(if t263=1 then (q06_Joins.j0 k l0 a1 t263 t265 (t265==2)) else (q06_Joins.j0 k l0 a1 t263 t265 false))) else (none)) else (none))) else (none)) else (none))=some r:=h
 clear h
 obtain ⟨ji3,hji3⟩: ∃ j_:Int,(wrap64 (a1 - 1))=j_:=⟨_,rfl⟩
 replace H:(if 0≤(ji3) then (if (ji3) < (l0.length:Int) then ((q05_Of.f k (rd l0 (ji3))).bind fun t263=>(if 0≤a1 then (if a1 < (l0.length:Int) then ((q05_Of.f k (rd l0 a1)).bind fun t265=>(if t263=1 then (q06_Joins.j0 k l0 a1 t263 t265 (t265==2)) else (q06_Joins.j0 k l0 a1 t263 t265 false))) else (none)) else (none))) else (none)) else (none))=some r:=by first|(rw [hji3] at H;exact H)|(simp only [hji3] at H ⊢;exact H)
 have hji3w:(IntKind.i64.wrap (a1 - 1))=ji3:=(i64_w _).trans hji3
 obtain ⟨c4,H⟩:=ifS H
 have c4b0:decide (0≤(ji3))=true:=decide_eq_true c4
 clear c4
 obtain ⟨c5,H⟩:=ifS H
 have c5b0:decide ((ji3) < (l0.length:Int))=true:=decide_eq_true c5
 clear c5
 obtain ⟨t263,A60,H⟩:=Option.bind_eq_some_iff.mp H
 try dsimp only at H
 have A6:=Am A60
 clear A60
 obtain ⟨c7,H⟩:=ifS H
 have c7b0:decide (0≤a1)=true:=decide_eq_true c7
 clear c7
 obtain ⟨c8,H⟩:=ifS H
 have c8b0:decide (a1 < (l0.length:Int))=true:=decide_eq_true c8
 clear c8
 obtain ⟨t265,A90,H⟩:=Option.bind_eq_some_iff.mp H
 try dsimp only at H
 have A9:=Am A90
 clear A90
 have HC10:=Am H
 clear H
 go_enter Try.func38,Try.ntmps38
 try dsimp only [List.append]
 try go_wp2
 replace HB:=Am (below_drew1 HB.out)
 have p262:0≤((ji3):Int):=tD
 have q262:(ji3) < (l0.length:Int):=tD
 obtain ⟨ad262,e262,hx262_0⟩:=Kd.at_int HR0.out (ji3) p262 q262
 have hw262_0:=hx262_0
 cases e262
 replace hx262_0:=cellU HB.out hx262_0
 replace p262:=eq_true p262
 replace q262:=eq_true q262
 have p264:0≤(a1:Int):=tD
 have q264:a1 < (l0.length:Int):=tD
 obtain ⟨ad264,e264,hx264_0⟩:=Kd.at_int HR0.out a1 p264 q264
 have hw264_0:=hx264_0
 obtain rfl:ad262=ad264:=(by injection e264)
 replace hx264_0:=cellU HB.out hx264_0
 replace p264:=eq_true p264
 replace q264:=eq_true q264
 refine start_ (n:=13) (S:=fun w'=>w'.cell? (ad262.add ((ji3)).toNat)=some (.int .i64 (rd l0 (ji3)))∧w'.cell? (ad262.add (a1).toNat)=some (.int .i64 (rd l0 a1))) (ds:=[]) (bl 13 0) TK rfl rfl ⟨(cellU HB.out hw262_0),(cellU HB.out hw264_0)⟩ (fun hHeld=>?_);refine with_tabW q06_Joins.tab1 q06_Joins.bits1 (fun HT_ HW_=>?_)
 generalize w.drew=w11 at HB hx262_0 hx264_0 hHeld ⊢
 refine pureS (i:=0) (N:=some 10) (bl 13 1) rfl rfl (any_of HT_.out TK) ?_
 refine pureS (i:=1) (N:=some 11) (bl 13 3) rfl rfl (any_of HT_.out TK) ?_
 refine pureS (i:=2) (N:=some 12) (bl 13 7) rfl rfl (any_of HT_.out TK) ?_
 refine pureS (i:=3) (N:=some 13) (bl 13 15) rfl rfl (any_of HT_.out TK) ?_
 refine pureS (i:=6) (N:=some 16) (bl 13 79) rfl rfl (any_of HT_.out TK) ?_
 refine pureS (i:=7) (N:=some 17) (bl 13 207) rfl rfl (any_of HT_.out TK) ?_
 refine pureS (i:=8) (N:=some 18) (bl 13 463) rfl rfl (any_of HT_.out TK) ?_
 refine take_ (i:=4) (N:=some 14) (v:=?_) (a':=?_) (bl 13 479) rfl rfl (take_ofW HT_.out HW_.out TK) (fun _ _ _ h=>h) (Or.inl ⟨by rfl,?_⟩) hHeld ?_ ?_
 rotate_left
 ·
  rintro w' ⟨s0,s1⟩
  go_simp
  with_reducible rfl
 rotate_left
 ·
  simp only [PT]
  rfl
 refine take_ (i:=9) (N:=some 19) (v:=?_) (a':=?_) (bl 13 991) rfl rfl (take_ofW HT_.out HW_.out TK) (fun _ _ _ h=>h) (Or.inl ⟨by rfl,?_⟩) hHeld ?_ ?_
 rotate_left
 ·
  rintro w' ⟨s0,s1⟩
  go_simp
  with_reducible rfl
 rotate_left
 ·
  simp only [PT]
  rfl
 refine one_ (i:=5) (N:=some 15) (bl 13 1023) rfl rfl (one_of HT_.out TK) (by decide) (fun K hK=>?_)
 refine goes_ Try.func56 TK rfl #[.int .i64 (rd l0 (ji3))] (by rfl) rfl rfl (by (try simp only [List.map_toArray,List.map_cons,List.map_nil]);first|done|(simp only [hji3];rfl)|rfl|(simp only [List.length_drop,List.length_take];rfl)) ?_
 with_reducible refine (q05_Of.calls k (rd l0 (ji3)) t263 _ A6.out).mono ?_
 rintro e w12 ⟨rfl,hb⟩
 refine ⟨_,rfl,?_⟩
 replace HB:=Am (below_step TB hb)
 (try clear hb)
 (try clear hb2)
 (try clear hk)
 (try clear hi)
 refine hK.out _ _ ⟨(cellU HB.out hw262_0),(cellU HB.out hw264_0)⟩ (fun hHeld=>?_)
 clear hK K
 refine norm_ (a':=?_) ?_ ?_
 rotate_left
 ·
  show Act.put _ (some 15) _=_
  simp only [PT]
  rfl
 refine one_ (i:=10) (N:=some 20) (bl 13 2047) rfl rfl (one_of HT_.out TK) (by decide) (fun K hK=>?_)
 refine goes_ Try.func56 TK rfl #[.int .i64 (rd l0 a1)] (by rfl) rfl rfl TM ?_
 with_reducible refine (q05_Of.calls k (rd l0 a1) t265 _ A9.out).mono ?_
 rintro e w13 ⟨rfl,hb⟩
 refine ⟨_,rfl,?_⟩
 replace HB:=Am (below_step TB hb)
 (try clear hb)
 (try clear hb2)
 (try clear hk)
 (try clear hi)
 refine hK.out _ _ ⟨(cellU HB.out hw262_0),(cellU HB.out hw264_0)⟩ (fun hHeld=>?_)
 clear hK K
 refine norm_ (a':=?_) ?_ ?_
 rotate_left
 ·
  show Act.put _ (some 20) _=_
  simp only [PT]
  rfl
 refine pureS (i:=11) (N:=some 5) (bl 13 4095) rfl rfl (any_of HT_.out TK) ?_
 refine pureS (i:=12) (N:=some 6) (bl 13 8191) rfl rfl (any_of HT_.out TK) ?_
 refine done_ (done_of HT_.out TK) ?_
 go_upto_region 2 with (fail)
 go_cut [26] (fun v26 wc=> ∃ (kq:Nat) (x26_9:Bool),v26= .bool x26_9∧Aside0 (q06_Joins.j0 kq l0 a1 t263 t265 x26_9=some r)∧Aside0 (kq≤k)∧Aside0 (Below w.heap.size w wc))
 case first =>
  have H:=HC10.out
  clear HC10
  by_cases c14:t263=1
  rotate_left
  ·
   rw [if_neg c14] at H
   have c14b0:(t263==1)=false:=beq_eq_false_iff_ne.mpr c14
   have c14b1:(t263 !=1)=true:=bne_iff_ne.mpr c14
   (first|rw [c14b0]|(simp only [i64_w,i32_w];rw [c14b0])|skip)
   have H':=Am H
   clear H
   go_wp2
   go_meet
   case rel=>exact ⟨_,(false),TS,H',⟨by first|omega|exact Nat.le_refl _⟩,⟨TB⟩⟩
  rw [if_pos c14] at H
  have c14b0:(t263==1)=true:=beq_iff_eq.mpr c14
  have c14b1:(t263 !=1)=false:=bne_eq_false_iff_eq.mpr c14
  clear c14
  (first|rw [c14b0]|(simp only [i64_w,i32_w];rw [c14b0])|skip)
  have H':=Am H
  clear H
  go_wp2
  go_meet
  case rel=>exact ⟨_,((t265==2)),TS,H',⟨by first|omega|exact Nat.le_refl _⟩,⟨TB⟩⟩
 case rest =>
  clear HC10
  obtain ⟨kq,x26_9,rfl,HA,HJ9,HB⟩:=hcut
  cases kq with
  | zero=>exact absurd HA.out (by simp [q06_Joins.j0])
  | succ kj9 =>
   have H:=HA.out
   clear HA
   simp only [q06_Joins.j0] at H
   by_cases c15:x26_9=true
   ·
    subst c15
    rw [if_pos rfl] at H
    obtain rfl:=Option.some.inj H
    go_wp2
    go_ret
    exact ⟨by first|rfl|(simp [errW_none,errW_some] <;> rfl)|(simp only [← hji3];first|rfl|(simp [errW_none,errW_some] <;> rfl))|(simp [*,errW_none,errW_some] <;> rfl),TB⟩
   replace c15:=Bool.eq_false_iff.mpr c15
   subst c15
   rw [if_neg (show ¬ (false=true) by decide)] at H
   have HC16:=Am H
   clear H
   go_upto_region 4 with (fail)
   go_cut [50] (fun v50 wc=> ∃ (kq:Nat) (x50_15:Bool),v50= .bool x50_15∧Aside0 (q06_Joins.j1 kq l0 a1 t263 t265 x50_15=some r)∧Aside0 (kq≤kj9)∧Aside0 (Below w.heap.size w wc))
   case first =>
    have H:=HC16.out
    clear HC16
    obtain ⟨t266,A170,H⟩:=Option.bind_eq_some_iff.mp H
    try dsimp only at H
    have A17:=Am A170
    clear A170
    by_cases c18:t266=true
    ·
     subst c18
     rw [if_pos rfl] at H
     have H':=Am H
     clear H
     go_wp2_with (first|((with_reducible refine gate_callee (f:=57) rfl ?_);refine goesL_ (some 28) rfl rfl Try.func57 TK rfl #[.int .i64 t263] rfl TM ?_;(with_reducible refine (q06_alone.calls t263 true _ A17.out).mono ?_);rintro e w' ⟨rfl,⟨nd,rfl⟩⟩;refine ⟨_,rfl,?_⟩))
     go_meet
     case rel=>exact ⟨_,(false),TS,H',⟨by have:=HJ9.out;first|omega|exact Nat.le_refl _⟩,⟨TB⟩⟩
    replace c18:=Bool.eq_false_iff.mpr c18
    subst c18
    rw [if_neg (show ¬ (false=true) by decide)] at H
    obtain ⟨t267,A190,H⟩:=Option.bind_eq_some_iff.mp H
    try dsimp only at H
    have A19:=Am A190
    clear A190
    by_cases c20:t267=true
    ·
     subst c20
     rw [if_pos rfl] at H
     have H':=Am H
     clear H
     go_wp2_with (first|((with_reducible refine gate_callee (f:=57) rfl ?_);refine goesL_ (some 28) rfl rfl Try.func57 TK rfl #[.int .i64 t263] rfl TM ?_;(with_reducible refine (q06_alone.calls t263 false _ A17.out).mono ?_);rintro e w' ⟨rfl,⟨nd,rfl⟩⟩;refine ⟨_,rfl,?_⟩)|(go_at_call 57;(with_reducible refine (q06_alone.calls t265 true _ A19.out).mono ?_);rintro e w' ⟨rfl,⟨nd,rfl⟩⟩))
     go_meet
     case rel=>exact ⟨_,(false),TS,H',⟨by have:=HJ9.out;first|omega|exact Nat.le_refl _⟩,⟨TB⟩⟩
    replace c20:=Bool.eq_false_iff.mpr c20
    subst c20
    rw [if_neg (show ¬ (false=true) by decide)] at H
    by_cases c21:t265=4
    ·
     rw [if_pos c21] at H
     have c21b0:(t265==4)=true:=beq_iff_eq.mpr c21
     have c21b1:(t265 !=4)=false:=bne_eq_false_iff_eq.mpr c21
     clear c21
     (first|rw [c21b0]|(simp only [i64_w,i32_w];rw [c21b0])|skip)
     have H':=Am H
     clear H
     go_wp2_with (first|((with_reducible refine gate_callee (f:=57) rfl ?_);refine goesL_ (some 28) rfl rfl Try.func57 TK rfl #[.int .i64 t263] rfl TM ?_;(with_reducible refine (q06_alone.calls t263 false _ A17.out).mono ?_);rintro e w' ⟨rfl,⟨nd,rfl⟩⟩;refine ⟨_,rfl,?_⟩)|(go_at_call 57;(with_reducible refine (q06_alone.calls t265 false _ A19.out).mono ?_);rintro e w' ⟨rfl,⟨nd,rfl⟩⟩))
     go_meet
     case rel=>exact ⟨_,(true),TS,H',⟨by have:=HJ9.out;first|omega|exact Nat.le_refl _⟩,⟨TB⟩⟩
    rw [if_neg c21] at H
    have c21b0:(t265==4)=false:=beq_eq_false_iff_ne.mpr c21
    have c21b1:(t265 !=4)=true:=bne_iff_ne.mpr c21
    (first|rw [c21b0]|(simp only [i64_w,i32_w];rw [c21b0])|skip)
    by_cases c22:t265=5
    ·
     rw [if_pos c22] at H
     have c22b0:(t265==5)=true:=beq_iff_eq.mpr c22
     have c22b1:(t265 !=5)=false:=bne_eq_false_iff_eq.mpr c22
     clear c22
     have H':=Am H
     clear H
     go_wp2_with (first|((with_reducible refine gate_callee (f:=57) rfl ?_);refine goesL_ (some 28) rfl rfl Try.func57 TK rfl #[.int .i64 t263] rfl TM ?_;(with_reducible refine (q06_alone.calls t263 false _ A17.out).mono ?_);rintro e w' ⟨rfl,⟨nd,rfl⟩⟩;refine ⟨_,rfl,?_⟩)|(go_at_call 57;(with_reducible refine (q06_alone.calls t265 false _ A19.out).mono ?_);rintro e w' ⟨rfl,⟨nd,rfl⟩⟩))
     go_meet
     case rel=>exact ⟨_,(true),TS,H',⟨by have:=HJ9.out;first|omega|exact Nat.le_refl _⟩,⟨TB⟩⟩
    rw [if_neg c22] at H
    have c22b0:(t265==5)=false:=beq_eq_false_iff_ne.mpr c22
    have c22b1:(t265 !=5)=true:=bne_iff_ne.mpr c22
    by_cases c23:t265=8
    rotate_left
    ·
     rw [if_neg c23] at H
     have c23b0:(t265==8)=false:=beq_eq_false_iff_ne.mpr c23
     have c23b1:(t265 !=8)=true:=bne_iff_ne.mpr c23
     have H':=Am H
     clear H
     go_wp2_with (first|((with_reducible refine gate_callee (f:=57) rfl ?_);refine goesL_ (some 28) rfl rfl Try.func57 TK rfl #[.int .i64 t263] rfl TM ?_;(with_reducible refine (q06_alone.calls t263 false _ A17.out).mono ?_);rintro e w' ⟨rfl,⟨nd,rfl⟩⟩;refine ⟨_,rfl,?_⟩)|(go_at_call 57;(with_reducible refine (q06_alone.calls t265 false _ A19.out).mono ?_);rintro e w' ⟨rfl,⟨nd,rfl⟩⟩))
     go_meet
     case rel=>exact ⟨_,((t263==7)),TS,H',⟨by have:=HJ9.out;first|omega|exact Nat.le_refl _⟩,⟨TB⟩⟩
    rw [if_pos c23] at H
    have c23b0:(t265==8)=true:=beq_iff_eq.mpr c23
    have c23b1:(t265 !=8)=false:=bne_eq_false_iff_eq.mpr c23
    clear c23
    have H':=Am H
    clear H
    go_wp2_with (first|((with_reducible refine gate_callee (f:=57) rfl ?_);refine goesL_ (some 28) rfl rfl Try.func57 TK rfl #[.int .i64 t263] rfl TM ?_;(with_reducible refine (q06_alone.calls t263 false _ A17.out).mono ?_);rintro e w' ⟨rfl,⟨nd,rfl⟩⟩;refine ⟨_,rfl,?_⟩)|(go_at_call 57;(with_reducible refine (q06_alone.calls t265 false _ A19.out).mono ?_);rintro e w' ⟨rfl,⟨nd,rfl⟩⟩))
    go_meet
    case rel=>exact ⟨_,(true),TS,H',⟨by have:=HJ9.out;first|omega|exact Nat.le_refl _⟩,⟨TB⟩⟩
   case rest =>
    clear HC16
    obtain ⟨kq,x50_15,rfl,HA,HJ15,HB⟩:=hcut
    cases kq with
    | zero=>exact absurd HA.out (by simp [q06_Joins.j1])
    | succ kj15 =>
     have H:=HA.out
     clear HA
     simp only [q06_Joins.j1] at H
     by_cases c24:x50_15=true
     ·
      subst c24
      rw [if_pos rfl] at H
      obtain rfl:=Option.some.inj H
      go_wp2
      go_ret
      exact ⟨by first|rfl|(simp [errW_none,errW_some] <;> rfl)|(simp only [← hji3];first|rfl|(simp [errW_none,errW_some] <;> rfl))|(simp [*,errW_none,errW_some] <;> rfl),TB⟩
     replace c24:=Bool.eq_false_iff.mpr c24
     subst c24
     rw [if_neg (show ¬ (false=true) by decide)] at H
     obtain ⟨t268,A250,H⟩:=Option.bind_eq_some_iff.mp H
     try dsimp only at H
     have A25:=Am A250
     clear A250
     by_cases c26:t268=true
     ·
      subst c26
      rw [if_pos rfl] at H
      obtain rfl:=Option.some.inj H
      go_wp2_with (first|((with_reducible refine gate_callee (f:=58) rfl ?_);refine goesL_ (some 53) rfl rfl Try.func58 TK rfl #[.int .i64 t263,.int .i64 t265] rfl TM ?_;(with_reducible refine (q06_syllable.calls t263 t265 true _ A25.out).mono ?_);rintro e w' ⟨rfl,⟨nd,rfl⟩⟩;refine ⟨_,rfl,?_⟩))
      go_ret
      exact ⟨by first|rfl|(simp [errW_none,errW_some] <;> rfl)|(simp only [← hji3];first|rfl|(simp [errW_none,errW_some] <;> rfl))|(simp [*,errW_none,errW_some] <;> rfl),TB⟩
     replace c26:=Bool.eq_false_iff.mpr c26
     subst c26
     rw [if_neg (show ¬ (false=true) by decide)] at H
     have HC27:=Am H
     clear H
     go_upto_region 8 with (first|((with_reducible refine gate_callee (f:=58) rfl ?_);refine goesL_ (some 53) rfl rfl Try.func58 TK rfl #[.int .i64 t263,.int .i64 t265] rfl TM ?_;(with_reducible refine (q06_syllable.calls t263 t265 false _ A25.out).mono ?_);rintro e w' ⟨rfl,⟨nd,rfl⟩⟩;refine ⟨_,rfl,?_⟩))
     (try simp only [Act.put,List.setIfInBounds_toArray,List.set_cons_zero,List.set_cons_succ])
     go_cut [62] (fun v62 wc=> ∃ (kq:Nat) (x62_26:Bool),v62= .bool x62_26∧Aside0 (q06_Joins.j2 kq l0 a1 t263 t265 x62_26=some r)∧Aside0 (kq≤kj15)∧Aside0 (Below w.heap.size w wc))
     case first =>
      have H:=HC27.out
      clear HC27
      by_cases c28:t263=5
      rotate_left
      ·
       rw [if_neg c28] at H
       have c28b0:(t263==5)=false:=beq_eq_false_iff_ne.mpr c28
       have c28b1:(t263 !=5)=true:=bne_iff_ne.mpr c28
       (first|rw [c28b0]|(simp only [i64_w,i32_w];rw [c28b0])|skip)
       have H':=Am H
       clear H
       go_wp2
       go_meet
       case rel=>exact ⟨_,(false),TS,H',⟨by have:=HJ9.out;have:=HJ15.out;first|omega|exact Nat.le_refl _⟩,⟨TB⟩⟩
      rw [if_pos c28] at H
      have c28b0:(t263==5)=true:=beq_iff_eq.mpr c28
      have c28b1:(t263 !=5)=false:=bne_eq_false_iff_eq.mpr c28
      clear c28
      (first|rw [c28b0]|(simp only [i64_w,i32_w];rw [c28b0])|skip)
      obtain ⟨c29,H⟩:=ifS H
      have c29b0:decide (0≤a1)=true:=decide_eq_true c29
      clear c29
      obtain ⟨c30,H⟩:=ifS H
      have c30b0:decide (a1 < (l0.length:Int))=true:=decide_eq_true c30
      clear c30
      obtain ⟨t270,A310,H⟩:=Option.bind_eq_some_iff.mp H
      try dsimp only at H
      have A31:=Am A310
      clear A310
      have H':=Am H
      clear H
      have p269:0≤(a1:Int):=tD
      have q269:a1 < (l0.length:Int):=tD
      obtain ⟨ad269,e269,hx269_0⟩:=Kd.at_int HR0.out a1 p269 q269
      obtain rfl:ad262=ad269:=(by injection e269)
      replace hx269_0:=cellU HB.out hx269_0
      replace p269:=eq_true p269
      replace q269:=eq_true q269
      go_wp2_with (first|(go_at_call 59;(with_reducible refine (q05_Pict.calls kj15 (rd l0 a1) t270 _ A31.out).mono ?_);rintro e w32 ⟨rfl,hb⟩;replace HB:=Am (below_step TB hb);(try clear hb);(try clear hb2);(try clear hk);(try clear hi)))
      go_meet
      case rel=>exact ⟨_,(t270),TS,H',⟨by have:=HJ9.out;have:=HJ15.out;first|omega|exact Nat.le_refl _⟩,⟨TB⟩⟩
     case rest =>
      clear HC27
      obtain ⟨kq,x62_26,rfl,HA,HJ26,HB⟩:=hcut
      cases kq with
      | zero=>exact absurd HA.out (by simp [q06_Joins.j2])
      | succ kj26 =>
       have H:=HA.out
       clear HA
       simp only [q06_Joins.j2] at H
       have HC33:=Am H
       clear H
       go_upto_if 62 with (fail)
       go_cut [] (fun wc=> ∃ (kq:Nat),Aside0 (q06_Joins.j4 kq l0 a1 t263 t265=some r)∧Aside0 (kq≤kj26)∧Aside0 (Below w.heap.size w wc))
       case first =>
        have H:=HC33.out
        clear HC33
        by_cases c34:x62_26=true
        rotate_left
        ·
         replace c34:=Bool.eq_false_iff.mpr c34
         subst c34
         rw [if_neg (show ¬ (false=true) by decide)] at H
         have H':=Am H
         clear H
         go_wp2
         go_meet
         case rel=>exact ⟨_,H',⟨by have:=HJ9.out;have:=HJ15.out;have:=HJ26.out;first|omega|exact Nat.le_refl _⟩,⟨TB⟩⟩
        subst c34
        rw [if_pos rfl] at H
        have H':=Am H
        clear H
        go_wp2
        go_loopg [7] kj26 (fun kq v7 w'=> ∃ (x7_4:Int),v7= .int .i64 x7_4∧Aside0 (q06_Joins.l0 kq l0 a1 t263 t265 x7_4=some r)∧Aside0 (kq≤kj26)∧Aside0 (Below w.heap.size w w'))
        case atStart=>exact ⟨(wrap64 (a1 - 2)),TS,H',⟨Nat.le_refl _⟩,⟨TB⟩⟩
        case round =>
         clear H'
         obtain ⟨x7_4,rfl,HA,HK4,HB⟩:=hrel
         cases gk with
         | zero=>exact absurd HA.out (by simp [q06_Joins.l0])
         | succ k4 =>
          have H:=HA.out
          clear HA
          simp only [q06_Joins.l0] at H
          by_cases c35:x7_4≥0
          rotate_left
          ·
           rw [if_neg c35] at H
           have c35b0:decide (0≤x7_4)=false:=decide_eq_false c35
           clear c35
           (first|rw [c35b0]|(simp only [i64_w,i32_w];rw [c35b0])|skip)
           have H':=Am H
           clear H
           go_wp2
           go_meet
           case rel=>exact ⟨_,H',⟨by have:=HJ9.out;have:=HJ15.out;have:=HJ26.out;have:=HK4.out;first|omega|exact Nat.le_refl _⟩,⟨TB⟩⟩
          rw [if_pos c35] at H
          have c35b0:decide (0≤x7_4)=true:=decide_eq_true c35
          clear c35
          (first|rw [c35b0]|(simp only [i64_w,i32_w];rw [c35b0])|skip)
          obtain ⟨c36,H⟩:=ifS H
          have c36b0:decide (0≤x7_4)=true:=decide_eq_true c36
          clear c36
          obtain ⟨c37,H⟩:=ifS H
          have c37b0:decide (x7_4 < (l0.length:Int))=true:=decide_eq_true c37
          clear c37
          obtain ⟨t272,A380,H⟩:=Option.bind_eq_some_iff.mp H
          try dsimp only at H
          have A38:=Am A380
          clear A380
          by_cases c39:t272=4
          ·
           rw [if_pos c39] at H
           have c39b0:(t272==4)=true:=beq_iff_eq.mpr c39
           have c39b1:(t272 !=4)=false:=bne_eq_false_iff_eq.mpr c39
           clear c39
           have H':=Am H
           clear H
           have p271:0≤(x7_4:Int):=tD
           have q271:x7_4 < (l0.length:Int):=tD
           obtain ⟨ad271,e271,hx271_0⟩:=Kd.at_int HR0.out x7_4 p271 q271
           obtain rfl:ad262=ad271:=(by injection e271)
           replace hx271_0:=cellU HB.out hx271_0
           replace p271:=eq_true p271
           replace q271:=eq_true q271
           go_wp2_with (first|(go_at_call 56;(with_reducible refine (q05_Of.calls k4 (rd l0 x7_4) t272 _ A38.out).mono ?_);rintro e w40 ⟨rfl,hb⟩;replace HB:=Am (below_step TB hb);(try clear hb);(try clear hb2);(try clear hk);(try clear hi)))
           go_roundg k4
           case measure=>have:=HJ9.out;have:=HJ15.out;have:=HJ26.out;have:=HK4.out;omega
           case rel=>exact ⟨(wrap64 (x7_4 - 1)),TS,H',⟨by have:=HJ9.out;have:=HJ15.out;have:=HJ26.out;have:=HK4.out;omega⟩,⟨TB⟩⟩
          rw [if_neg c39] at H
          have c39b0:(t272==4)=false:=beq_eq_false_iff_ne.mpr c39
          have c39b1:(t272 !=4)=true:=bne_iff_ne.mpr c39
          obtain ⟨t274,A410,H⟩:=Option.bind_eq_some_iff.mp H
          try dsimp only at H
          have A41:=Am A410
          clear A410
          by_cases c42:t274=true
          ·
           subst c42
           rw [if_pos rfl] at H
           obtain rfl:=Option.some.inj H
           have p271:0≤(x7_4:Int):=tD
           have q271:x7_4 < (l0.length:Int):=tD
           obtain ⟨ad271,e271,hx271_0⟩:=Kd.at_int HR0.out x7_4 p271 q271
           obtain rfl:ad262=ad271:=(by injection e271)
           replace hx271_0:=cellU HB.out hx271_0
           replace p271:=eq_true p271
           replace q271:=eq_true q271
           go_wp2_with (first|(go_at_call 56;(with_reducible refine (q05_Of.calls k4 (rd l0 x7_4) t272 _ A38.out).mono ?_);rintro e w43 ⟨rfl,hb⟩;replace HB:=Am (below_step TB hb);(try clear hb);(try clear hb2);(try clear hk);(try clear hi);have p273:0≤(x7_4:Int):=tD;have q273:x7_4 < (l0.length:Int):=tD;obtain ⟨ad273,e273,hx273_0⟩:=Kd.at_int HR0.out x7_4 p273 q273;obtain rfl:ad262=ad273:=(by injection e273);replace hx273_0:=cellU HB.out hx273_0;replace p273:=eq_true p273;replace q273:=eq_true q273)|(go_at_call 59;(with_reducible refine (q05_Pict.calls k4 (rd l0 x7_4) true _ A41.out).mono ?_);rintro e w44 ⟨rfl,hb⟩;replace HB:=Am (below_step TB hb);(try clear hb);(try clear hb2);(try clear hk);(try clear hi)))
           go_ret
           exact ⟨by first|rfl|(simp [errW_none,errW_some] <;> rfl)|(simp only [← hji3];first|rfl|(simp [errW_none,errW_some] <;> rfl))|(simp [*,errW_none,errW_some] <;> rfl),TB⟩
          replace c42:=Bool.eq_false_iff.mpr c42
          subst c42
          rw [if_neg (show ¬ (false=true) by decide)] at H
          have H':=Am H
          clear H
          have p271:0≤(x7_4:Int):=tD
          have q271:x7_4 < (l0.length:Int):=tD
          obtain ⟨ad271,e271,hx271_0⟩:=Kd.at_int HR0.out x7_4 p271 q271
          obtain rfl:ad262=ad271:=(by injection e271)
          replace hx271_0:=cellU HB.out hx271_0
          replace p271:=eq_true p271
          replace q271:=eq_true q271
          go_wp2_with (first|(go_at_call 56;(with_reducible refine (q05_Of.calls k4 (rd l0 x7_4) t272 _ A38.out).mono ?_);rintro e w45 ⟨rfl,hb⟩;replace HB:=Am (below_step TB hb);(try clear hb);(try clear hb2);(try clear hk);(try clear hi);have p273:0≤(x7_4:Int):=tD;have q273:x7_4 < (l0.length:Int):=tD;obtain ⟨ad273,e273,hx273_0⟩:=Kd.at_int HR0.out x7_4 p273 q273;obtain rfl:ad262=ad273:=(by injection e273);replace hx273_0:=cellU HB.out hx273_0;replace p273:=eq_true p273;replace q273:=eq_true q273)|(go_at_call 59;(with_reducible refine (q05_Pict.calls k4 (rd l0 x7_4) false _ A41.out).mono ?_);rintro e w46 ⟨rfl,hb⟩;replace HB:=Am (below_step TB hb);(try clear hb);(try clear hb2);(try clear hk);(try clear hi)))
          go_meet
          case rel=>exact ⟨_,H',⟨by have:=HJ9.out;have:=HJ15.out;have:=HJ26.out;have:=HK4.out;first|omega|exact Nat.le_refl _⟩,⟨TB⟩⟩
       case rest =>
        clear HC33
        obtain ⟨kq,HA,HJ32,HB⟩:=hcut
        cases kq with
        | zero=>exact absurd HA.out (by simp [q06_Joins.j4])
        | succ kj32 =>
         have H:=HA.out
         clear HA
         simp only [q06_Joins.j4] at H
         have HC47:=Am H
         clear H
         go_upto_region 14 with (fail)
         go_cut [91] (fun v91 wc=> ∃ (kq:Nat) (x91_46:Bool),v91= .bool x91_46∧Aside0 (q06_Joins.j5 kq l0 a1 x91_46=some r)∧Aside0 (kq≤kj32)∧Aside0 (Below w.heap.size w wc))
         case first =>
          have H:=HC47.out
          clear HC47
          by_cases c48:t263=6
          rotate_left
          ·
           rw [if_neg c48] at H
           have c48b0:(t263==6)=false:=beq_eq_false_iff_ne.mpr c48
           have c48b1:(t263 !=6)=true:=bne_iff_ne.mpr c48
           (first|rw [c48b0]|(simp only [i64_w,i32_w];rw [c48b0])|skip)
           have H':=Am H
           clear H
           go_wp2
           go_meet
           case rel=>exact ⟨_,(false),TS,H',⟨by have:=HJ9.out;have:=HJ15.out;have:=HJ26.out;have:=HJ32.out;first|omega|exact Nat.le_refl _⟩,⟨TB⟩⟩
          rw [if_pos c48] at H
          have c48b0:(t263==6)=true:=beq_iff_eq.mpr c48
          have c48b1:(t263 !=6)=false:=bne_eq_false_iff_eq.mpr c48
          clear c48
          (first|rw [c48b0]|(simp only [i64_w,i32_w];rw [c48b0])|skip)
          have H':=Am H
          clear H
          go_wp2
          go_meet
          case rel=>exact ⟨_,((t265==6)),TS,H',⟨by have:=HJ9.out;have:=HJ15.out;have:=HJ26.out;have:=HJ32.out;first|omega|exact Nat.le_refl _⟩,⟨TB⟩⟩
         case rest =>
          clear HC47
          obtain ⟨kq,x91_46,rfl,HA,HJ46,HB⟩:=hcut
          cases kq with
          | zero=>exact absurd HA.out (by simp [q06_Joins.j5])
          | succ kj46 =>
           have H:=HA.out
           clear HA
           simp only [q06_Joins.j5] at H
           by_cases c49:x91_46=true
           rotate_left
           ·
            replace c49:=Bool.eq_false_iff.mpr c49
            subst c49
            rw [if_neg (show ¬ (false=true) by decide)] at H
            obtain rfl:=Option.some.inj H
            go_wp2
            go_ret
            exact ⟨by first|rfl|(simp [errW_none,errW_some] <;> rfl)|(simp only [← hji3];first|rfl|(simp [errW_none,errW_some] <;> rfl))|(simp [*,errW_none,errW_some] <;> rfl),TB⟩
           subst c49
           rw [if_pos rfl] at H
           have H':=Am H
           clear H
           go_wp2
           go_loopg [8,9] kj46 (fun kq v8 v9 w'=> ∃ (x8_6:Int) (x9_6:Int),v8= .int .i64 x8_6∧v9= .int .i64 x9_6∧Aside0 (q06_Joins.l1 kq l0 x8_6 x9_6=some r)∧Aside0 (kq≤kj46)∧Aside0 (Below w.heap.size w w'))
           case atStart=>exact ⟨(0),(wrap64 (a1 - 2)),TS,TS,H',⟨Nat.le_refl _⟩,⟨TB⟩⟩
           case round =>
            clear H'
            obtain ⟨x8_6,x9_6,rfl,rfl,HA,HK6,HB⟩:=hrel
            cases gk with
            | zero=>exact absurd HA.out (by simp [q06_Joins.l1])
            | succ k6 =>
             have H:=HA.out
             clear HA
             simp only [q06_Joins.l1] at H
             by_cases c50:x9_6≥0
             rotate_left
             ·
              rw [if_neg c50] at H
              have c50b0:decide (0≤x9_6)=false:=decide_eq_false c50
              clear c50
              obtain rfl:=Option.some.inj H
              go_wp2
              go_ret
              exact ⟨by first|rfl|(simp [errW_none,errW_some] <;> rfl)|(simp only [← hji3];first|rfl|(simp [errW_none,errW_some] <;> rfl))|(simp [*,errW_none,errW_some] <;> rfl),TB⟩
             rw [if_pos c50] at H
             have c50b0:decide (0≤x9_6)=true:=decide_eq_true c50
             clear c50
             obtain ⟨c51,H⟩:=ifS H
             have c51b0:decide (0≤x9_6)=true:=decide_eq_true c51
             clear c51
             obtain ⟨c52,H⟩:=ifS H
             have c52b0:decide (x9_6 < (l0.length:Int))=true:=decide_eq_true c52
             clear c52
             obtain ⟨t276,A530,H⟩:=Option.bind_eq_some_iff.mp H
             try dsimp only at H
             have A53:=Am A530
             clear A530
             by_cases c54:t276=6
             rotate_left
             ·
              rw [if_neg c54] at H
              have c54b0:(t276==6)=false:=beq_eq_false_iff_ne.mpr c54
              have c54b1:(t276 !=6)=true:=bne_iff_ne.mpr c54
              obtain rfl:=Option.some.inj H
              have p275:0≤(x9_6:Int):=tD
              have q275:x9_6 < (l0.length:Int):=tD
              obtain ⟨ad275,e275,hx275_0⟩:=Kd.at_int HR0.out x9_6 p275 q275
              obtain rfl:ad262=ad275:=(by injection e275)
              replace hx275_0:=cellU HB.out hx275_0
              replace p275:=eq_true p275
              replace q275:=eq_true q275
              go_wp2_with (first|(go_at_call 56;(with_reducible refine (q05_Of.calls k6 (rd l0 x9_6) t276 _ A53.out).mono ?_);rintro e w56 ⟨rfl,hb⟩;replace HB:=Am (below_step TB hb);(try clear hb);(try clear hb2);(try clear hk);(try clear hi)))
              go_ret
              exact ⟨by first|rfl|(simp [errW_none,errW_some] <;> rfl)|(simp only [← hji3];first|rfl|(simp [errW_none,errW_some] <;> rfl))|(simp [*,errW_none,errW_some] <;> rfl),TB⟩
             rw [if_pos c54] at H
             have c54b0:(t276==6)=true:=beq_iff_eq.mpr c54
             have c54b1:(t276 !=6)=false:=bne_eq_false_iff_eq.mpr c54
             clear c54
             have H':=Am H
             clear H
             have p275:0≤(x9_6:Int):=tD
             have q275:x9_6 < (l0.length:Int):=tD
             obtain ⟨ad275,e275,hx275_0⟩:=Kd.at_int HR0.out x9_6 p275 q275
             obtain rfl:ad262=ad275:=(by injection e275)
             replace hx275_0:=cellU HB.out hx275_0
             replace p275:=eq_true p275
             replace q275:=eq_true q275
             go_wp2_with (first|(go_at_call 56;(with_reducible refine (q05_Of.calls k6 (rd l0 x9_6) t276 _ A53.out).mono ?_);rintro e w55 ⟨rfl,hb⟩;replace HB:=Am (below_step TB hb);(try clear hb);(try clear hb2);(try clear hk);(try clear hi)))
             go_roundg k6
             case measure=>have:=HJ9.out;have:=HJ15.out;have:=HJ26.out;have:=HJ32.out;have:=HJ46.out;have:=HK6.out;omega
             case rel=>exact ⟨(wrap64 (x8_6+1)),(wrap64 (x9_6 - 1)),TS,TS,H',⟨by have:=HJ9.out;have:=HJ15.out;have:=HJ26.out;have:=HJ32.out;have:=HJ46.out;have:=HK6.out;omega⟩,⟨TB⟩⟩
def q04_in.l0:Nat→List Int→Int→Int→Option (Bool)
 | 0,_,_,_=>none
 | k+1,x0,x1,x5=>if x5 < (x0.length:Int) then (if 0≤x5 then (if (rd x0 x5)≤x1 then (if 0≤(wrap64 (x5+1)) then (if (wrap64 (x5+1)) < (x0.length:Int) then (if x1≤(rd x0 (wrap64 (x5+1))) then (some true) else (q04_in.l0 k x0 x1 (wrap64 (x5+2)))) else (none)) else (none)) else (q04_in.l0 k x0 x1 (wrap64 (x5+2)))) else (none)) else (some false)
def q04_in.f (k:Nat) (l0:List Int) (a1:Int):Option (Bool):=q04_in.l0 k l0 a1 0
theorem q04_in.mono_l: ∀ k,(∀ y0 y1 y2,LeO (q04_in.l0 k y0 y1 y2) (q04_in.l0 (k+1) y0 y1 y2))
 | 0=>fun _ _ _ r h=>by simp [q04_in.l0] at h
 | k+1=>by
  have ih0:=q04_in.mono_l k
  ·
   intros
   unfold q04_in.l0
   exact TL
theorem q04_in.mono: ∀ a0 a1 k,LeO (q04_in.f k a0 a1) (q04_in.f (k+1) a0 a1):=by
 intro a0 a1 k
 have ih0:=q04_in.mono_l k
 unfold q04_in.f
 repeat' first
   | (with_reducible exact ih0 _ _ _)
   | (with_reducible exact LeO.refl _)
   | (with_reducible exact LeO.none _)
   | (with_reducible refine LeO.ite ?_ ?_)
   | (with_reducible refine LeO.bind ?_ (fun _=>?_))
set_option maxHeartbeats 8000000 in
theorem q04_in.calls (k:Nat) (A0:Option Addr) (c0:Nat) (l0:List Int) (a1:Int) (r:Bool) (w:World) (hr0:Kd.C (Kd.int .i64) w A0 l0.length l0) (hc0:l0.length≤c0) (h:q04_in.f k l0 a1=some r) :
  Calls Try.prog 87 #[.slice A0 l0.length c0,.int .i64 a1] w fun e w'=>e= .returned (.bool r)∧Drawn0 w w':=by
 have HR0:=Am hr0
 have HC0:=Am hc0
 clear hr0 hc0
 have H:(q04_in.l0 k l0 a1 0)=some r:=h
 clear h
 have H':=Am H
 clear H
 go_enter Try.func87,Try.ntmps87
 go_wp2
 go_loopg [5] k (fun kq v5 w'=> ∃ (x5_1:Int),v5= .int .i64 x5_1∧Aside0 (q04_in.l0 kq l0 a1 x5_1=some r)∧Aside0 (kq≤k)∧Drawn0 w w')
 case atStart=>exact ⟨(0),TS,H',⟨Nat.le_refl _⟩,by repeat (first|exact Drawn0.refl _|apply Drawn0.step)⟩
 case round =>
  clear H'
  obtain ⟨x5_1,rfl,HA,HK1,⟨m1,rfl⟩⟩:=hrel
  cases gk with
  | zero=>exact absurd HA.out (by simp [q04_in.l0])
  | succ k1 =>
   have H:=HA.out
   clear HA
   simp only [q04_in.l0] at H
   by_cases c3:x5_1 < (l0.length:Int)
   rotate_left
   ·
    rw [if_neg c3] at H
    have c3b0:decide (x5_1 < (l0.length:Int))=false:=decide_eq_false c3
    clear c3
    obtain rfl:=Option.some.inj H
    go_wp2
    go_ret
    exact ⟨by first|rfl|(simp;done)|(simp [*];done),by repeat (first|exact Drawn0.refl _|apply Drawn0.step)⟩
   rw [if_pos c3] at H
   have c3b0:decide (x5_1 < (l0.length:Int))=true:=decide_eq_true c3
   clear c3
   obtain ⟨c4,H⟩:=ifS H
   have c4b0:decide (0≤x5_1)=true:=decide_eq_true c4
   clear c4
   by_cases c5:(rd l0 x5_1)≤a1
   rotate_left
   ·
    rw [if_neg c5] at H
    have c5b0:decide ((rd l0 x5_1)≤a1)=false:=decide_eq_false c5
    clear c5
    have H':=Am H
    clear H
    have p277:0≤(x5_1:Int):=tD
    have q277:x5_1 < (l0.length:Int):=tD
    obtain ⟨ad277,e277,hx277_0⟩:=Kd.at_int HR0.out x5_1 p277 q277
    cases e277
    replace p277:=eq_true p277
    replace q277:=eq_true q277
    go_wp2
    go_roundg k1
    case measure=>have:=HK1.out;omega
    case rel=>exact ⟨(wrap64 (x5_1+2)),TS,H',⟨by have:=HK1.out;omega⟩,by repeat (first|exact Drawn0.refl _|apply Drawn0.step)⟩
   rw [if_pos c5] at H
   have c5b0:decide ((rd l0 x5_1)≤a1)=true:=decide_eq_true c5
   clear c5
   obtain ⟨ji6,hji6⟩: ∃ j_:Int,(wrap64 (x5_1+1))=j_:=⟨_,rfl⟩
   replace H:(if 0≤(ji6) then (if (ji6) < (l0.length:Int) then (if a1≤(rd l0 (ji6)) then (some true) else (q04_in.l0 k1 l0 a1 (wrap64 (x5_1+2)))) else (none)) else (none))=some r:=by first|(rw [hji6] at H;exact H)|(simp only [hji6] at H ⊢;exact H)
   have hji6w:(IntKind.i64.wrap (x5_1+1))=ji6:=(i64_w _).trans hji6
   obtain ⟨c7,H⟩:=ifS H
   have c7b0:decide (0≤(ji6))=true:=decide_eq_true c7
   clear c7
   obtain ⟨c8,H⟩:=ifS H
   have c8b0:decide ((ji6) < (l0.length:Int))=true:=decide_eq_true c8
   clear c8
   by_cases c9:a1≤(rd l0 (ji6))
   ·
    rw [if_pos c9] at H
    have c9b0:decide (a1≤(rd l0 (ji6)))=true:=decide_eq_true c9
    clear c9
    obtain rfl:=Option.some.inj H
    have p277:0≤(x5_1:Int):=tD
    have q277:x5_1 < (l0.length:Int):=tD
    obtain ⟨ad277,e277,hx277_0⟩:=Kd.at_int HR0.out x5_1 p277 q277
    cases e277
    replace p277:=eq_true p277
    replace q277:=eq_true q277
    have p278:0≤((ji6):Int):=tD
    have q278:(ji6) < (l0.length:Int):=tD
    obtain ⟨ad278,e278,hx278_0⟩:=Kd.at_int HR0.out (ji6) p278 q278
    obtain rfl:ad277=ad278:=(by injection e278)
    replace p278:=eq_true p278
    replace q278:=eq_true q278
    go_wp2
    go_ret
    exact ⟨by first|rfl|(simp;done)|(simp only [← hji6] <;> (first|rfl|simp))|(simp [*];done),by repeat (first|exact Drawn0.refl _|apply Drawn0.step)⟩
   rw [if_neg c9] at H
   have c9b0:decide (a1≤(rd l0 (ji6)))=false:=decide_eq_false c9
   clear c9
   have H':=Am H
   clear H
   have p277:0≤(x5_1:Int):=tD
   have q277:x5_1 < (l0.length:Int):=tD
   obtain ⟨ad277,e277,hx277_0⟩:=Kd.at_int HR0.out x5_1 p277 q277
   cases e277
   replace p277:=eq_true p277
   replace q277:=eq_true q277
   have p278:0≤((ji6):Int):=tD
   have q278:(ji6) < (l0.length:Int):=tD
   obtain ⟨ad278,e278,hx278_0⟩:=Kd.at_int HR0.out (ji6) p278 q278
   obtain rfl:ad277=ad278:=(by injection e278)
   replace p278:=eq_true p278
   replace q278:=eq_true q278
   go_wp2
   go_roundg k1
   case measure=>have:=HK1.out;omega
   case rel=>exact ⟨(wrap64 (x5_1+2)),TS,H',⟨by have:=HK1.out;omega⟩,by repeat (first|exact Drawn0.refl _|apply Drawn0.step)⟩
def q04_Narrow.L:List Int:=[0,31,127,159,173,173,768,879,1155,1161,1425,1469,1471,1471,1473,1474,1476,1477,1479,1479,1536,1541,1552,1562,1564,1564,1611,1631,1648,1648,1750,1757,1759,1764,1767,1768,1770,1773,2274,2274,2362,2362,2364,2364,2369,2376,2381,2381,3633,3633,3636,3642,3655,3662,4448,4607,6832,6862,7616,7679,8203,8207,8232,8238,8288,8303,8400,8432,12330,12333,12441,12442,42607,42610,55216,55291,64286,64286,65024,65039,65056,65071,65279,65279,65529,65531,917505,917631,917760,917999]
def q04_Narrow.f:Option (List Int):=some q04_Narrow.L
section
open Go.Proofs.YteoaegigjlhamaaH
set_option maxHeartbeats 4000000 in
theorem q04_Narrow.calls (r:List Int) (w:World) (h:q04_Narrow.f=some r) :
  Calls Try.prog 88 #[] w fun e w'=> ∃ v0_:Value,e= .returned (v0_)∧Kd.R (Kd.int .i64) 3 w' w.heap.size (fun _=>True) v0_ r∧Below w.heap.size w w':=by
 have HB:=Am (Below.refl w.heap.size w)
 obtain rfl:q04_Narrow.L=r:=Option.some.inj h
 clear h
 go_enter Try.func88,Try.ntmps88
 go_wp2_with (first|((with_reducible refine gate_dst (N:=1) rfl ?_);refine row_event w.heap.size 3 rfl (N:=1) rfl 23 90 .i64 q04_Narrow.L ?ho TK Try.underlying23 TK TK (by decide) (by decide) HB.out (Nat.le_refl _) ?_;(case ho=>kernel_rfl);intro v1 w1 hO1 hB1 hg1 hb1;have HO:=Am hO1;have HB1:=Am hB1;clear hO1 hB1 hg1 hb1))
 go_ret
 exact ⟨_,rfl,HO.out,HB1.out⟩
end
def q04_Wide.L:List Int:=[4352,4447,8986,8987,9193,9196,9200,9200,9203,9203,9725,9726,9748,9749,9800,9811,9855,9855,9875,9875,9889,9889,9898,9899,9917,9918,9924,9925,9934,9934,9940,9940,9962,9962,9970,9971,9973,9973,9978,9978,9981,9981,9989,9989,9994,9995,10024,10024,10060,10060,10062,10062,10067,10069,10071,10071,10133,10135,10160,10160,10175,10175,11035,11036,11088,11088,11093,11093,11904,11929,11931,12019,12032,12245,12272,12329,12334,12350,12353,12438,12443,12543,12549,12591,12593,12686,12688,12771,12784,12830,12832,12871,12880,19903,19968,42124,42128,42182,43360,43388,44032,55203,63744,64255,65040,65049,65072,65106,65108,65126,65128,65131,65281,65376,65504,65510,126980,126980,127183,127183,127374,127374,127377,127386,127462,127490,127744,127776,127789,127797,127799,127868,127870,127891,127904,127946,127951,127955,127968,127984,127988,127988,127992,128062,128064,128064,128066,128252,128255,128317,128331,128334,128336,128359,128378,128378,128405,128406,128420,128420,128507,128591,128640,128709,128716,128716,128720,128722,128747,128748,128756,128764,129292,129338,129340,129349,129351,129535,129648,129791,131072,196605,196608,262141]
def q04_Wide.f:Option (List Int):=some q04_Wide.L
section
open Go.Proofs.YteoaegigjlhamaaH
set_option maxHeartbeats 4000000 in
theorem q04_Wide.calls (r:List Int) (w:World) (h:q04_Wide.f=some r) :
  Calls Try.prog 89 #[] w fun e w'=> ∃ v0_:Value,e= .returned (v0_)∧Kd.R (Kd.int .i64) 3 w' w.heap.size (fun _=>True) v0_ r∧Below w.heap.size w w':=by
 have HB:=Am (Below.refl w.heap.size w)
 obtain rfl:q04_Wide.L=r:=Option.some.inj h
 clear h
 go_enter Try.func89,Try.ntmps89
 go_wp2_with (first|((with_reducible refine gate_dst (N:=1) rfl ?_);refine row_event w.heap.size 3 rfl (N:=1) rfl 23 184 .i64 q04_Wide.L ?ho TK Try.underlying23 TK TK (by decide) (by decide) HB.out (Nat.le_refl _) ?_;(case ho=>kernel_rfl);intro v1 w1 hO1 hB1 hg1 hb1;have HO:=Am hO1;have HB1:=Am hB1;clear hO1 hB1 hg1 hb1))
 go_ret
 exact ⟨_,rfl,HO.out,HB1.out⟩
end
def q04_Of.f (k:Nat) (a0:Int):Option (Int):=(q04_Narrow.f).bind fun t279=>((q04_in.f k t279 a0).bind fun t282=>(if t282=true then (some 0) else ((q04_Wide.f).bind fun t283=>((q04_in.f k t283 a0).bind fun t286=>(if t286=true then (some 2) else (some 1))))))
theorem q04_Of.mono: ∀ a0 k,LeO (q04_Of.f k a0) (q04_Of.f (k+1) a0):=by
 intros
 unfold q04_Of.f
 have j0:=@q04_in.mono
 exact TL
set_option maxHeartbeats 8000000 in
theorem q04_Of.calls (k:Nat) (a0:Int) (r:Int) (w:World) (h:q04_Of.f k a0=some r) :
  Calls Try.prog 60 #[.int .i64 a0] w fun e w'=>e= .returned (.int .i64 r)∧Below w.heap.size w w':=by
 have HB:=Am (Below.refl w.heap.size w)
 have H:((q04_Narrow.f).bind fun t279=>((q04_in.f k t279 a0).bind fun t282=>(if t282=true then (some 0) else ((q04_Wide.f).bind fun t283=>((q04_in.f k t283 a0).bind fun t286=>(if t286=true then (some 2) else (some 1)))))))=some r:=h
 clear h
 obtain ⟨t279,A20,H⟩:=Option.bind_eq_some_iff.mp H
 try dsimp only at H
 have A2:=Am A20
 clear A20
 obtain ⟨t282,A30,H⟩:=Option.bind_eq_some_iff.mp H
 try dsimp only at H
 have A3:=Am A30
 clear A30
 by_cases c4:t282=true
 ·
  subst c4
  rw [if_pos rfl] at H
  obtain rfl:=Option.some.inj H
  go_enter Try.func60,Try.ntmps60
  go_wp2_with (first|((with_reducible refine gate_callee (f:=88) rfl ?_);refine goesL_ (some 3) rfl rfl Try.func88 TK rfl #[] rfl TM ?_;(with_reducible refine (q04_Narrow.calls t279 _ A2.out).mono ?_);rintro e w5 ⟨v280,rfl,ho0,hb⟩;refine ⟨_,rfl,?_⟩;have HO281:=Am (Kd.R_lower ho0 (below_size TB));replace HB:=Am (below_step TB hb);(try clear hb);(try clear hb2);(try clear hk);(try clear hi);(try clear ho0);obtain ⟨Ao6,co6,eo6⟩:=Kd.R_slice HO281.out;subst eo6)|((with_reducible refine gate_callee (f:=87) rfl ?_);refine goesL_ (some 5) rfl rfl Try.func87 TK rfl #[.slice Ao6 t279.length co6,.int .i64 a0] rfl TM ?_;(with_reducible refine (q04_in.calls k _ _ t279 a0 true _ ?side1 ?side2 A3.out).mono ?_);(case side1=>exact CU ((Kd.R_reads' HO281.out).2.2));(case side2=>exact (Kd.R_reads' HO281.out).2.1);rintro e w' ⟨rfl,⟨nd,rfl⟩⟩;refine ⟨_,rfl,?_⟩))
  go_ret
  exact ⟨TE,TB⟩
 replace c4:=Bool.eq_false_iff.mpr c4
 subst c4
 rw [if_neg (show ¬ (false=true) by decide)] at H
 obtain ⟨t283,A70,H⟩:=Option.bind_eq_some_iff.mp H
 try dsimp only at H
 have A7:=Am A70
 clear A70
 obtain ⟨t286,A80,H⟩:=Option.bind_eq_some_iff.mp H
 try dsimp only at H
 have A8:=Am A80
 clear A80
 by_cases c9:t286=true
 ·
  subst c9
  rw [if_pos rfl] at H
  obtain rfl:=Option.some.inj H
  go_enter Try.func60,Try.ntmps60
  go_wp2_with (first|((with_reducible refine gate_callee (f:=88) rfl ?_);refine goesL_ (some 3) rfl rfl Try.func88 TK rfl #[] rfl TM ?_;(with_reducible refine (q04_Narrow.calls t279 _ A2.out).mono ?_);rintro e w10 ⟨v280,rfl,ho0,hb⟩;refine ⟨_,rfl,?_⟩;have HO281:=Am (Kd.R_lower ho0 (below_size TB));replace HB:=Am (below_step TB hb);(try clear hb);(try clear hb2);(try clear hk);(try clear hi);(try clear ho0);obtain ⟨Ao11,co11,eo11⟩:=Kd.R_slice HO281.out;subst eo11)|((with_reducible refine gate_callee (f:=87) rfl ?_);refine goesL_ (some 5) rfl rfl Try.func87 TK rfl #[.slice Ao11 t279.length co11,.int .i64 a0] rfl TM ?_;(with_reducible refine (q04_in.calls k _ _ t279 a0 false _ ?side1 ?side2 A3.out).mono ?_);(case side1=>exact CU ((Kd.R_reads' HO281.out).2.2));(case side2=>exact (Kd.R_reads' HO281.out).2.1);rintro e w' ⟨rfl,⟨nd,rfl⟩⟩;refine ⟨_,rfl,?_⟩)|((with_reducible refine gate_callee (f:=89) rfl ?_);refine goesL_ (some 6) rfl rfl Try.func89 TK rfl #[] rfl TM ?_;(with_reducible refine (q04_Wide.calls t283 _ A7.out).mono ?_);rintro e w12 ⟨v284,rfl,ho0,hb⟩;refine ⟨_,rfl,?_⟩;have HO285:=Am (Kd.R_lower (Kd.R_new' ho0 (Kd.R_lt (RU HO281.out))) (below_size TB));replace HO281:=Am (Kd.R_elder' (RU HO281.out) (Kd.R_base ho0) hb);replace HB:=Am (below_step TB hb);(try clear hb);(try clear hb2);(try clear hk);(try clear hi);(try clear ho0);obtain ⟨Ao13,co13,eo13⟩:=Kd.R_slice HO285.out;subst eo13)|((with_reducible refine gate_callee (f:=87) rfl ?_);refine goesL_ (some 8) rfl rfl Try.func87 TK rfl #[.slice Ao13 t283.length co13,.int .i64 a0] rfl TM ?_;(with_reducible refine (q04_in.calls k _ _ t283 a0 true _ ?side1 ?side2 A8.out).mono ?_);(case side1=>exact CU ((Kd.R_reads' HO285.out).2.2));(case side2=>exact (Kd.R_reads' HO285.out).2.1);rintro e w' ⟨rfl,⟨nd,rfl⟩⟩;refine ⟨_,rfl,?_⟩))
  go_ret
  exact ⟨TE,TB⟩
 replace c9:=Bool.eq_false_iff.mpr c9
 subst c9
 rw [if_neg (show ¬ (false=true) by decide)] at H
 obtain rfl:=Option.some.inj H
 go_enter Try.func60,Try.ntmps60
 go_wp2_with (first|((with_reducible refine gate_callee (f:=88) rfl ?_);refine goesL_ (some 3) rfl rfl Try.func88 TK rfl #[] rfl TM ?_;(with_reducible refine (q04_Narrow.calls t279 _ A2.out).mono ?_);rintro e w14 ⟨v280,rfl,ho0,hb⟩;refine ⟨_,rfl,?_⟩;have HO281:=Am (Kd.R_lower ho0 (below_size TB));replace HB:=Am (below_step TB hb);(try clear hb);(try clear hb2);(try clear hk);(try clear hi);(try clear ho0);obtain ⟨Ao15,co15,eo15⟩:=Kd.R_slice HO281.out;subst eo15)|((with_reducible refine gate_callee (f:=87) rfl ?_);refine goesL_ (some 5) rfl rfl Try.func87 TK rfl #[.slice Ao15 t279.length co15,.int .i64 a0] rfl TM ?_;(with_reducible refine (q04_in.calls k _ _ t279 a0 false _ ?side1 ?side2 A3.out).mono ?_);(case side1=>exact CU ((Kd.R_reads' HO281.out).2.2));(case side2=>exact (Kd.R_reads' HO281.out).2.1);rintro e w' ⟨rfl,⟨nd,rfl⟩⟩;refine ⟨_,rfl,?_⟩)|((with_reducible refine gate_callee (f:=89) rfl ?_);refine goesL_ (some 6) rfl rfl Try.func89 TK rfl #[] rfl TM ?_;(with_reducible refine (q04_Wide.calls t283 _ A7.out).mono ?_);rintro e w16 ⟨v284,rfl,ho0,hb⟩;refine ⟨_,rfl,?_⟩;have HO285:=Am (Kd.R_lower (Kd.R_new' ho0 (Kd.R_lt (RU HO281.out))) (below_size TB));replace HO281:=Am (Kd.R_elder' (RU HO281.out) (Kd.R_base ho0) hb);replace HB:=Am (below_step TB hb);(try clear hb);(try clear hb2);(try clear hk);(try clear hi);(try clear ho0);obtain ⟨Ao17,co17,eo17⟩:=Kd.R_slice HO285.out;subst eo17)|((with_reducible refine gate_callee (f:=87) rfl ?_);refine goesL_ (some 8) rfl rfl Try.func87 TK rfl #[.slice Ao17 t283.length co17,.int .i64 a0] rfl TM ?_;(with_reducible refine (q04_in.calls k _ _ t283 a0 false _ ?side1 ?side2 A8.out).mono ?_);(case side1=>exact CU ((Kd.R_reads' HO285.out).2.2));(case side2=>exact (Kd.R_reads' HO285.out).2.1);rintro e w' ⟨rfl,⟨nd,rfl⟩⟩;refine ⟨_,rfl,?_⟩))
 go_ret
 exact ⟨TE,TB⟩
def q06_Wide.l0:Nat→List Int→Int→Int→Option (Int)
 | 0,_,_,_=>none
 | k+1,x0,x3,x4=>if x4 < (x0.length:Int) then (if 0≤x4 then ((q04_Of.f k (rd x0 x4)).bind fun t291=>(if x4 > 0 then (if (rd x0 x4)=65039 then (if 0≤(wrap64 (x4 - 1)) then (if (wrap64 (x4 - 1)) < (x0.length:Int) then ((q05_Pict.f k (rd x0 (wrap64 (x4 - 1)))).bind fun t294=>(if t294=true then (some 2) else (q06_Wide.l0 k x0 (mx x3 t291) (wrap64 (x4+1))))) else (none)) else (none)) else (q06_Wide.l0 k x0 (mx x3 t291) (wrap64 (x4+1)))) else (q06_Wide.l0 k x0 (mx x3 t291) (wrap64 (x4+1))))) else (none)) else (some x3)
def q06_Wide.f (k:Nat) (l0:List Int):Option (Int):=if 0 < (l0.length:Int) then ((q05_Of.f k (rd l0 0)).bind fun t288=>((q06_alone.f t288).bind fun t289=>(if t289=true then (some 0) else (q06_Wide.l0 k l0 0 0)))) else (none)
theorem q06_Wide.mono_l: ∀ k,(∀ y0 y1 y2,LeO (q06_Wide.l0 k y0 y1 y2) (q06_Wide.l0 (k+1) y0 y1 y2))
 | 0=>fun _ _ _ r h=>by simp [q06_Wide.l0] at h
 | k+1=>by
  have ih0:=q06_Wide.mono_l k
  ·
   intros
   unfold q06_Wide.l0
   have j0:=@q04_Of.mono
   have j1:=@q05_Of.mono
   have j2:=@q05_Pict.mono
   exact TL
theorem q06_Wide.mono: ∀ a0 k,LeO (q06_Wide.f k a0) (q06_Wide.f (k+1) a0):=by
 intro a0 k
 have ih0:=q06_Wide.mono_l k
 unfold q06_Wide.f
 repeat' first
   | (with_reducible exact ih0 _ _ _)
   | (with_reducible exact q04_Of.mono _ _)
   | (with_reducible exact q05_Of.mono _ _)
   | (with_reducible exact q05_Pict.mono _ _)
   | (with_reducible exact LeO.refl _)
   | (with_reducible exact LeO.none _)
   | (with_reducible refine LeO.ite ?_ ?_)
   | (with_reducible refine LeO.bind ?_ (fun _=>?_))
set_option maxHeartbeats 8000000 in
theorem q06_Wide.calls (k:Nat) (A0:Option Addr) (c0:Nat) (l0:List Int) (r:Int) (w:World) (hr0:Kd.C (Kd.int .i64) w A0 l0.length l0) (hc0:l0.length≤c0) (h:q06_Wide.f k l0=some r) :
  Calls Try.prog 39 #[.slice A0 l0.length c0] w fun e w'=>e= .returned (.int .i64 r)∧Below w.heap.size w w':=by
 have HR0:=Am hr0
 have HC0:=Am hc0
 clear hr0 hc0
 have HB:=Am (Below.refl w.heap.size w)
 have H:(if 0 < (l0.length:Int) then ((q05_Of.f k (rd l0 0)).bind fun t288=>((q06_alone.f t288).bind fun t289=>(if t289=true then (some 0) else (q06_Wide.l0 k l0 0 0)))) else (none))=some r:=h
 clear h
 obtain ⟨c2,H⟩:=ifS H
 have c2b0:decide (0 < (l0.length:Int))=true:=decide_eq_true c2
 have c2b1:decide (0 < l0.length)=true:=decide_eq_true (by omega)
 clear c2
 obtain ⟨t288,A30,H⟩:=Option.bind_eq_some_iff.mp H
 try dsimp only at H
 have A3:=Am A30
 clear A30
 obtain ⟨t289,A40,H⟩:=Option.bind_eq_some_iff.mp H
 try dsimp only at H
 have A4:=Am A40
 clear A40
 by_cases c5:t289=true
 ·
  subst c5
  rw [if_pos rfl] at H
  obtain rfl:=Option.some.inj H
  have p287:0≤(0:Int):=(by omega)
  have q287:0 < (l0.length:Int):=tD
  obtain ⟨ad287,e287,hx287_0⟩:=Kd.at_int HR0.out 0 p287 q287
  cases e287
  have qi287:(0 < l0.length)=True:=eq_true (by omega)
  (try rw [show ((0:Int)).toNat=0 from rfl] at hx287_0)
  (try rw [Addr.add_zero'] at hx287_0)
  replace p287:=eq_true p287
  replace q287:=eq_true q287
  go_enter Try.func39,Try.ntmps39
  go_wp2_with (first|((with_reducible refine gate_callee (f:=56) rfl ?_);refine goesL_ (some 8) rfl rfl Try.func56 TK rfl #[.int .i64 (rd l0 0)] rfl TM ?_;(with_reducible refine (q05_Of.calls k (rd l0 0) t288 _ A3.out).mono ?_);rintro e w6 ⟨rfl,hb⟩;refine ⟨_,rfl,?_⟩;replace HB:=Am (below_step TB hb);(try clear hb);(try clear hb2);(try clear hk);(try clear hi))|((with_reducible refine gate_callee (f:=57) rfl ?_);refine goesL_ (some 9) rfl rfl Try.func57 TK rfl #[.int .i64 t288] rfl TM ?_;(with_reducible refine (q06_alone.calls t288 true _ A4.out).mono ?_);rintro e w' ⟨rfl,⟨nd,rfl⟩⟩;refine ⟨_,rfl,?_⟩))
  go_ret
  exact ⟨TE,TB⟩
 replace c5:=Bool.eq_false_iff.mpr c5
 subst c5
 rw [if_neg (show ¬ (false=true) by decide)] at H
 have H':=Am H
 clear H
 have p287:0≤(0:Int):=(by omega)
 have q287:0 < (l0.length:Int):=tD
 obtain ⟨ad287,e287,hx287_0⟩:=Kd.at_int HR0.out 0 p287 q287
 cases e287
 have qi287:(0 < l0.length)=True:=eq_true (by omega)
 (try rw [show ((0:Int)).toNat=0 from rfl] at hx287_0)
 (try rw [Addr.add_zero'] at hx287_0)
 replace p287:=eq_true p287
 replace q287:=eq_true q287
 go_enter Try.func39,Try.ntmps39
 go_wp2_with (first|((with_reducible refine gate_callee (f:=56) rfl ?_);refine goesL_ (some 8) rfl rfl Try.func56 TK rfl #[.int .i64 (rd l0 0)] rfl TM ?_;(with_reducible refine (q05_Of.calls k (rd l0 0) t288 _ A3.out).mono ?_);rintro e w7 ⟨rfl,hb⟩;refine ⟨_,rfl,?_⟩;replace HB:=Am (below_step TB hb);(try clear hb);(try clear hb2);(try clear hk);(try clear hi))|((with_reducible refine gate_callee (f:=57) rfl ?_);refine goesL_ (some 9) rfl rfl Try.func57 TK rfl #[.int .i64 t288] rfl TM ?_;(with_reducible refine (q06_alone.calls t288 false _ A4.out).mono ?_);rintro e w' ⟨rfl,⟨nd,rfl⟩⟩;refine ⟨_,rfl,?_⟩))
 go_loopg [3,4] k (fun kq v3 v4 w'=> ∃ (x3_1:Int) (x4_1:Int),v3= .int .i64 x3_1∧v4= .int .i64 x4_1∧Aside0 (q06_Wide.l0 kq l0 x3_1 x4_1=some r)∧Aside0 (kq≤k)∧Aside0 (Below w.heap.size w w'))
 case atStart=>exact ⟨(0),(0),TS,TS,H',⟨Nat.le_refl _⟩,⟨TB⟩⟩
 case round =>
  clear H'
  obtain ⟨x3_1,x4_1,rfl,rfl,HA,HK1,HB⟩:=hrel
  cases gk with
  | zero=>exact absurd HA.out (by simp [q06_Wide.l0])
  | succ k1 =>
   have H:=HA.out
   clear HA
   simp only [q06_Wide.l0] at H
   by_cases c8:x4_1 < (l0.length:Int)
   rotate_left
   ·
    rw [if_neg c8] at H
    have c8b0:decide (x4_1 < (l0.length:Int))=false:=decide_eq_false c8
    clear c8
    obtain rfl:=Option.some.inj H
    go_wp2
    go_ret
    exact ⟨TE,TB⟩
   rw [if_pos c8] at H
   have c8b0:decide (x4_1 < (l0.length:Int))=true:=decide_eq_true c8
   clear c8
   obtain ⟨c9,H⟩:=ifS H
   have c9b0:decide (0≤x4_1)=true:=decide_eq_true c9
   clear c9
   obtain ⟨t291,A100,H⟩:=Option.bind_eq_some_iff.mp H
   try dsimp only at H
   have A10:=Am A100
   clear A100
   obtain ⟨ji11,hji11⟩: ∃ j_:Int,(mx x3_1 t291)=j_:=⟨_,rfl⟩
   replace H:(if x4_1 > 0 then (if (rd l0 x4_1)=65039 then (if 0≤(wrap64 (x4_1 - 1)) then (if (wrap64 (x4_1 - 1)) < (l0.length:Int) then ((q05_Pict.f k1 (rd l0 (wrap64 (x4_1 - 1)))).bind fun t294=>(if t294=true then (some 2) else (q06_Wide.l0 k1 l0 ji11 (wrap64 (x4_1+1))))) else (none)) else (none)) else (q06_Wide.l0 k1 l0 ji11 (wrap64 (x4_1+1)))) else (q06_Wide.l0 k1 l0 ji11 (wrap64 (x4_1+1))))=some r:=by first|(rw [hji11] at H;exact H)|(simp only [hji11] at H ⊢;exact H)
   (try rw [hji11] at A10)
   have hji11_:(if x3_1 < t291 then t291 else x3_1)=ji11:=hji11
   by_cases c12:x4_1 > 0
   rotate_left
   ·
    rw [if_neg c12] at H
    have c12b0:decide (0 < x4_1)=false:=decide_eq_false c12
    clear c12
    have H':=Am H
    clear H
    have p290:0≤(x4_1:Int):=tD
    have q290:x4_1 < (l0.length:Int):=tD
    obtain ⟨ad290,e290,hx290_0⟩:=Kd.at_int HR0.out x4_1 p290 q290
    obtain rfl:ad287=ad290:=(by injection e290)
    replace hx290_0:=cellU HB.out hx290_0
    replace p290:=eq_true p290
    replace q290:=eq_true q290
    go_wp2_with (first|((with_reducible refine gate_callee (f:=60) rfl ?_);refine goesL_ (some 21) rfl rfl Try.func60 TK rfl #[.int .i64 (rd l0 x4_1)] rfl TM ?_;(with_reducible refine (q04_Of.calls k1 (rd l0 x4_1) t291 _ A10.out).mono ?_);rintro e w24 ⟨rfl,hb⟩;refine ⟨_,rfl,?_⟩;replace HB:=Am (below_step TB hb);(try clear hb);(try clear hb2);(try clear hk);(try clear hi)))
    go_roundg k1
    case measure=>have:=HK1.out;omega
    case rel=>exact ⟨(ji11),(wrap64 (x4_1+1)),(by first|rfl|(simp;done)|(simp only [← hji11] <;> (first|rfl|simp))|(simp [*];done)),TS,H',⟨by have:=HK1.out;omega⟩,⟨TB⟩⟩
   rw [if_pos c12] at H
   have c12b0:decide (0 < x4_1)=true:=decide_eq_true c12
   clear c12
   by_cases c13:(rd l0 x4_1)=65039
   rotate_left
   ·
    rw [if_neg c13] at H
    have c13b0:((rd l0 x4_1)==65039)=false:=beq_eq_false_iff_ne.mpr c13
    have c13b1:((rd l0 x4_1) !=65039)=true:=bne_iff_ne.mpr c13
    have H':=Am H
    clear H
    have p290:0≤(x4_1:Int):=tD
    have q290:x4_1 < (l0.length:Int):=tD
    obtain ⟨ad290,e290,hx290_0⟩:=Kd.at_int HR0.out x4_1 p290 q290
    obtain rfl:ad287=ad290:=(by injection e290)
    replace hx290_0:=cellU HB.out hx290_0
    replace p290:=eq_true p290
    replace q290:=eq_true q290
    go_wp2_with (first|((with_reducible refine gate_callee (f:=60) rfl ?_);refine goesL_ (some 21) rfl rfl Try.func60 TK rfl #[.int .i64 (rd l0 x4_1)] rfl TM ?_;(with_reducible refine (q04_Of.calls k1 (rd l0 x4_1) t291 _ A10.out).mono ?_);rintro e w23 ⟨rfl,hb⟩;refine ⟨_,rfl,?_⟩;replace HB:=Am (below_step TB hb);(try clear hb);(try clear hb2);(try clear hk);(try clear hi);have p292:0≤(x4_1:Int):=tD;have q292:x4_1 < (l0.length:Int):=tD;obtain ⟨ad292,e292,hx292_0⟩:=Kd.at_int HR0.out x4_1 p292 q292;obtain rfl:ad287=ad292:=(by injection e292);replace hx292_0:=cellU HB.out hx292_0;replace p292:=eq_true p292;replace q292:=eq_true q292))
    go_roundg k1
    case measure=>have:=HK1.out;omega
    case rel=>exact ⟨(ji11),(wrap64 (x4_1+1)),(by first|rfl|(simp;done)|(simp only [← hji11] <;> (first|rfl|simp))|(simp [*];done)),TS,H',⟨by have:=HK1.out;omega⟩,⟨TB⟩⟩
   rw [if_pos c13] at H
   have c13b0:((rd l0 x4_1)==65039)=true:=beq_iff_eq.mpr c13
   have c13b1:((rd l0 x4_1) !=65039)=false:=bne_eq_false_iff_eq.mpr c13
   clear c13
   obtain ⟨ji14,hji14⟩: ∃ j_:Int,(wrap64 (x4_1 - 1))=j_:=⟨_,rfl⟩
   replace H:(if 0≤(ji14) then (if (ji14) < (l0.length:Int) then ((q05_Pict.f k1 (rd l0 (ji14))).bind fun t294=>(if t294=true then (some 2) else (q06_Wide.l0 k1 l0 ji11 (wrap64 (x4_1+1))))) else (none)) else (none))=some r:=by first|(rw [hji14] at H;exact H)|(simp only [hji14] at H ⊢;exact H)
   (try rw [hji14] at A10)
   have hji14w:(IntKind.i64.wrap (x4_1 - 1))=ji14:=(i64_w _).trans hji14
   obtain ⟨c15,H⟩:=ifS H
   have c15b0:decide (0≤(ji14))=true:=decide_eq_true c15
   clear c15
   obtain ⟨c16,H⟩:=ifS H
   have c16b0:decide ((ji14) < (l0.length:Int))=true:=decide_eq_true c16
   clear c16
   obtain ⟨t294,A170,H⟩:=Option.bind_eq_some_iff.mp H
   try dsimp only at H
   have A17:=Am A170
   clear A170
   by_cases c18:t294=true
   ·
    subst c18
    rw [if_pos rfl] at H
    obtain rfl:=Option.some.inj H
    have p290:0≤(x4_1:Int):=tD
    have q290:x4_1 < (l0.length:Int):=tD
    obtain ⟨ad290,e290,hx290_0⟩:=Kd.at_int HR0.out x4_1 p290 q290
    obtain rfl:ad287=ad290:=(by injection e290)
    replace hx290_0:=cellU HB.out hx290_0
    replace p290:=eq_true p290
    replace q290:=eq_true q290
    go_wp2_with (first|((with_reducible refine gate_callee (f:=60) rfl ?_);refine goesL_ (some 21) rfl rfl Try.func60 TK rfl #[.int .i64 (rd l0 x4_1)] rfl TM ?_;(with_reducible refine (q04_Of.calls k1 (rd l0 x4_1) t291 _ A10.out).mono ?_);rintro e w19 ⟨rfl,hb⟩;refine ⟨_,rfl,?_⟩;replace HB:=Am (below_step TB hb);(try clear hb);(try clear hb2);(try clear hk);(try clear hi);have p292:0≤(x4_1:Int):=tD;have q292:x4_1 < (l0.length:Int):=tD;obtain ⟨ad292,e292,hx292_0⟩:=Kd.at_int HR0.out x4_1 p292 q292;obtain rfl:ad287=ad292:=(by injection e292);replace hx292_0:=cellU HB.out hx292_0;replace p292:=eq_true p292;replace q292:=eq_true q292;have p293:0≤((ji14):Int):=tD;have q293:(ji14) < (l0.length:Int):=tD;obtain ⟨ad293,e293,hx293_0⟩:=Kd.at_int HR0.out (ji14) p293 q293;obtain rfl:ad287=ad293:=(by injection e293);replace hx293_0:=cellU HB.out hx293_0;replace p293:=eq_true p293;replace q293:=eq_true q293)|(go_at_call 59;(with_reducible refine (q05_Pict.calls k1 (rd l0 (ji14)) true _ A17.out).mono ?_);rintro e w20 ⟨rfl,hb⟩;replace HB:=Am (below_step TB hb);(try clear hb);(try clear hb2);(try clear hk);(try clear hi)))
    go_ret
    exact ⟨by first|rfl|(simp [errW_none,errW_some] <;> rfl)|(simp only [← hji11,← hji14];first|rfl|(simp [errW_none,errW_some] <;> rfl))|(simp [*,errW_none,errW_some] <;> rfl),TB⟩
   replace c18:=Bool.eq_false_iff.mpr c18
   subst c18
   rw [if_neg (show ¬ (false=true) by decide)] at H
   have H':=Am H
   clear H
   have p290:0≤(x4_1:Int):=tD
   have q290:x4_1 < (l0.length:Int):=tD
   obtain ⟨ad290,e290,hx290_0⟩:=Kd.at_int HR0.out x4_1 p290 q290
   obtain rfl:ad287=ad290:=(by injection e290)
   replace hx290_0:=cellU HB.out hx290_0
   replace p290:=eq_true p290
   replace q290:=eq_true q290
   go_wp2_with (first|((with_reducible refine gate_callee (f:=60) rfl ?_);refine goesL_ (some 21) rfl rfl Try.func60 TK rfl #[.int .i64 (rd l0 x4_1)] rfl TM ?_;(with_reducible refine (q04_Of.calls k1 (rd l0 x4_1) t291 _ A10.out).mono ?_);rintro e w21 ⟨rfl,hb⟩;refine ⟨_,rfl,?_⟩;replace HB:=Am (below_step TB hb);(try clear hb);(try clear hb2);(try clear hk);(try clear hi);have p292:0≤(x4_1:Int):=tD;have q292:x4_1 < (l0.length:Int):=tD;obtain ⟨ad292,e292,hx292_0⟩:=Kd.at_int HR0.out x4_1 p292 q292;obtain rfl:ad287=ad292:=(by injection e292);replace hx292_0:=cellU HB.out hx292_0;replace p292:=eq_true p292;replace q292:=eq_true q292;have p293:0≤((ji14):Int):=tD;have q293:(ji14) < (l0.length:Int):=tD;obtain ⟨ad293,e293,hx293_0⟩:=Kd.at_int HR0.out (ji14) p293 q293;obtain rfl:ad287=ad293:=(by injection e293);replace hx293_0:=cellU HB.out hx293_0;replace p293:=eq_true p293;replace q293:=eq_true q293)|(go_at_call 59;(with_reducible refine (q05_Pict.calls k1 (rd l0 (ji14)) false _ A17.out).mono ?_);rintro e w22 ⟨rfl,hb⟩;replace HB:=Am (below_step TB hb);(try clear hb);(try clear hb2);(try clear hk);(try clear hi)))
   go_roundg k1
   case measure=>have:=HK1.out;omega
   case rel=>exact ⟨(ji11),(wrap64 (x4_1+1)),(by first|rfl|(simp;done)|(simp only [← hji11] <;> (first|rfl|simp))|(simp [*];done)),TS,H',⟨by have:=HK1.out;omega⟩,⟨TB⟩⟩
end Go.Proofs.Yteoaegigjlhamaa.PC19
