/- Chapter 19, printed: what the functions compute, and proofs that they do. -/
import Derived.Test.YteoaegigjlhamaaPC19x0
import Derived.Test.YteoaegigjlhamaaPC19x9
namespace Go.Proofs.Yteoaegigjlhamaa.PC19
open Go.RowKit Go.Proofs.YteoaegigjlhamaaW.PrintWords Go.Proofs.YteoaegigjlhamaaW.PrintLast Go.Proofs.YteoaegigjlhamaaW.PrintMore
attribute [local go_sem] max2_int min2_int max_two min_two max_three min_three max_four min_four
set_option linter.unusedVariables false
set_option maxRecDepth 100000
set_option linter.unusedSimpArgs false
mutual
def q06_Of.l0:Nat→List (S36)→List Int→Int→Option ((List (S40)))
 | 0,_,_,_=>none
 | k+1,x0,x3,x4=>if x4 < (x0.length:Int) then (if 0≤x4 then (if x3.length < 17592186044416 then (q06_Of.l0 k x0 (x3++[(rd_T36 x0 x4).f2]) (wrap64 (x4+1))) else (none)) else (none)) else (q06_Of.l1 k x0 x3 ([]:List (S40)) 0 1)
def q06_Of.l1:Nat→List (S36)→List Int→List (S40)→Int→Int→Option ((List (S40)))
 | 0,_,_,_,_,_=>none
 | k+1,x0,x3,x5,x6,x7=>if x7≤(x0.length:Int) then (if x7 < (x0.length:Int) then ((q06_Joins.f k x3 x7).bind fun t299=>(q06_Of.j2 k x0 x3 x5 x6 x7 t299)) else (q06_Of.j2 k x0 x3 x5 x6 x7 false)) else (some x5)
def q06_Of.j2:Nat→List (S36)→List Int→List (S40)→Int→Int→Bool→Option ((List (S40)))
 | 0,_,_,_,_,_,_=>none
 | k+1,x0,x3,x5,x6,x7,x38=>if x38=true then (q06_Of.l1 k x0 x3 x5 x6 (wrap64 (x7+1))) else (if 0≤x6 then (if x6 < (x0.length:Int) then (if x6 < (x3.length:Int) then (if x6≤x7 then (if x7≤(x3.length:Int) then ((q06_Wide.f k ((x3.take (x7:Int).toNat).drop (x6:Int).toNat)).bind fun t306=>(q06_Of.l2 k x0 x3 x5 x7 x6 ((rd_T36 x0 x6).f0) 0 x6 x7 t306 (rd x3 x6))) else (none)) else (none)) else (none)) else (none)) else (none))
def q06_Of.l2:Nat→List (S36)→List Int→List (S40)→Int→Int→Int→Int→Int→Int→Int→Int→Option ((List (S40)))
 | 0,_,_,_,_,_,_,_,_,_,_,_=>none
 | k+1,x0,x3,x5,x7,x9,x308000,x308001,x308002,x308003,x308004,x308005=>if x9 < x7 then (if 0≤x9 then (if x9 < (x0.length:Int) then (q06_Of.l2 k x0 x3 x5 x7 (wrap64 (x9+1)) x308000 (wrap64 (x308001+((rd_T36 x0 x9).f1))) x308002 x308003 x308004 x308005) else (none)) else (none)) else (if x5.length < 2932031007402 then (q06_Of.l1 k x0 x3 (x5++[(⟨x308000,x308001,x308002,x308003,x308004,x308005⟩:S40)]) x7 (wrap64 (x7+1))) else (none))
end
def q06_Of.f (k:Nat) (l0:List (S36)):Option ((List (S40))):=q06_Of.l0 k l0 ([]:List Int) 0
theorem q06_Of.mono_l: ∀ k,(∀ y0 y1 y2,LeO (q06_Of.l0 k y0 y1 y2) (q06_Of.l0 (k+1) y0 y1 y2))∧(∀ y0 y1 y2 y3 y4,LeO (q06_Of.l1 k y0 y1 y2 y3 y4) (q06_Of.l1 (k+1) y0 y1 y2 y3 y4))∧(∀ y0 y1 y2 y3 y4 y5,LeO (q06_Of.j2 k y0 y1 y2 y3 y4 y5) (q06_Of.j2 (k+1) y0 y1 y2 y3 y4 y5))∧(∀ y0 y1 y2 y3 y4 y5 y6 y7 y8 y9 y10,LeO (q06_Of.l2 k y0 y1 y2 y3 y4 y5 y6 y7 y8 y9 y10) (q06_Of.l2 (k+1) y0 y1 y2 y3 y4 y5 y6 y7 y8 y9 y10))
 | 0=>⟨fun _ _ _ r h=>by simp [q06_Of.l0] at h,fun _ _ _ _ _ r h=>by simp [q06_Of.l1] at h,fun _ _ _ _ _ _ r h=>by simp [q06_Of.j2] at h,fun _ _ _ _ _ _ _ _ _ _ _ r h=>by simp [q06_Of.l2] at h⟩
 | k+1=>by
  obtain ⟨ih0,ih1,ih2,ih3⟩:=q06_Of.mono_l k
  refine ⟨?_,?_,?_,?_⟩
  ·
   intros
   unfold q06_Of.l0
   have j0:=@q06_Joins.mono
   have j1:=@q06_Wide.mono
   exact TL
  ·
   intros
   unfold q06_Of.l1
   have j0:=@q06_Joins.mono
   have j1:=@q06_Wide.mono
   exact TL
  ·
   intros
   unfold q06_Of.j2
   have j0:=@q06_Joins.mono
   have j1:=@q06_Wide.mono
   exact TL
  ·
   intros
   unfold q06_Of.l2
   have j0:=@q06_Joins.mono
   have j1:=@q06_Wide.mono
   exact TL
theorem q06_Of.mono: ∀ a0 k,LeO (q06_Of.f k a0) (q06_Of.f (k+1) a0):=by
 intro a0 k
 obtain ⟨ih0,ih1,ih2,ih3⟩:=q06_Of.mono_l k
 unfold q06_Of.f
 repeat' first
   | (with_reducible exact ih0 _ _ _)
   | (with_reducible exact ih1 _ _ _ _ _)
   | (with_reducible exact ih2 _ _ _ _ _ _)
   | (with_reducible exact ih3 _ _ _ _ _ _ _ _ _ _ _)
   | (with_reducible exact q06_Joins.mono _ _ _)
   | (with_reducible exact q06_Wide.mono _ _)
   | (with_reducible exact LeO.refl _)
   | (with_reducible exact LeO.none _)
   | (with_reducible refine LeO.ite ?_ ?_)
   | (with_reducible refine LeO.bind ?_ (fun _=>?_))
def q06_Of.T12:Bool × List (List Nat × List Nat):=(true,[([],[]),([],[]),([0,1],[0,1]),([2],[2]),([3],[3]),([],[]),([],[]),([],[]),([],[]),([7,8],[7,8]),([9],[9]),([],[]),([],[]),([],[]),([11,12,13],[11,12,13]),([14],[14]),([4,5,6,10,15],[4,5,6,10,15]),([],[]),([17,16,15,0,1,2,3,4,5,6,7,8,9,10,11,12,13,14,15,16,17],[16,17])])
def q06_Of.B12:List Nat:=[0,0,3,7,15,0,0,0,0,384,896,0,0,0,14336,30720,65535,0,262143]
theorem q06_Of.tab12:rtab .any (opsOf Try.f21 12)=q06_Of.T12:=by kernel_rfl
theorem q06_Of.bits12:waitsOk q06_Of.T12.2 q06_Of.B12=true:=by kernel_rfl
def q06_Of.T16:Bool × List (List Nat × List Nat):=(true,[([],[]),([0],[0]),([],[]),([],[]),([2,3],[2,3]),([4],[4]),([5],[5]),([1,6],[1,6]),([0,1,2,3,4,5,6,7],[]),([8,7,0,1,2,3,4,5,6,7],[7,8])])
def q06_Of.B16:List Nat:=[0,1,0,0,12,28,60,127,255,511]
theorem q06_Of.tab16:rtab .any (opsOf Try.f21 16)=q06_Of.T16:=by kernel_rfl
theorem q06_Of.bits16:waitsOk q06_Of.T16.2 q06_Of.B16=true:=by kernel_rfl
set_option maxHeartbeats 8000000 in
theorem q06_Of.calls (k:Nat) (A0:Option Addr) (c0:Nat) (l0:List (S36)) (r:List (S40)) (w:World) (hr0:Kd.C k36 w A0 l0.length l0) (hc0:l0.length≤c0) (h:q06_Of.f k l0=some r) :
  Calls Try.prog 21 #[.slice A0 l0.length c0] w fun e w'=> ∃ v0_:Value,e= .returned (v0_)∧Kd.R k40 40 w' w.heap.size (fun _=>True) v0_ r∧Below w.heap.size w w':=by
 have hu40:=Try.underlying40
 have HR0:=Am hr0
 have HC0:=Am hc0
 clear hr0 hc0
 have HB:=Am (Below.refl w.heap.size w)
 have H:(q06_Of.l0 k l0 ([]:List Int) 0)=some r:=h
 clear h
 have H':=Am H
 clear H
 go_enter Try.func21,Try.ntmps21
 try dsimp only [List.append]
 go_wp2
 go_loopg [3,4] k (fun kq v3 v4 w'=> ∃ (x3_1:List Int) (x4_1:Int),v4= .int .i64 x4_1∧Aside0 (q06_Of.l0 kq l0 x3_1 x4_1=some r)∧Aside0 (kq≤k)∧Aside0 (Kd.R (Kd.int .i64) 3 w' w.heap.size (fun _=>True) v3 x3_1)∧Aside0 (Below w.heap.size w w'))
 case atStart=>exact ⟨(([]:List Int)),(0),TS,H',⟨Nat.le_refl _⟩,⟨by first|exact Kd.R_nil _ _ _ _ _|exact Kd.N_nil _ _ _ _ _|exact Kd.V_nil _ _ _ _ _|exact Kd.Q_nil _ _ _ _ _|exact Kd.S_nil _ _ _ _ _⟩,⟨TB⟩⟩
 case round =>
  clear H'
  obtain ⟨x3_1,x4_1,rfl,HA,HK1,HO_3,HB⟩:=hrel
  cases gk with
  | zero=>exact absurd HA.out (by simp [q06_Of.l0])
  | succ k1 =>
   have H:=HA.out
   clear HA
   simp only [q06_Of.l0] at H
   by_cases c2:x4_1 < (l0.length:Int)
   ·
    rw [if_pos c2] at H
    have c2b0:decide (x4_1 < (l0.length:Int))=true:=decide_eq_true c2
    clear c2
    obtain ⟨c3,H⟩:=ifS H
    have c3b0:decide (0≤x4_1)=true:=decide_eq_true c3
    clear c3
    obtain ⟨c4,H⟩:=ifS H
    have LMc4:=Am c4
    clear c4
    obtain ⟨y296,hy296⟩: ∃ y_:List Int,y_=(x3_1++[(rd_T36 l0 x4_1).f2]):=⟨_,rfl⟩
    replace H:(q06_Of.l0 k1 l0 y296 (wrap64 (x4_1+1)))=some r:=by first|(rw [hy296];with_reducible exact H)|(have H2_:=(Option.bind_some _ _).symm.trans H;rw [hy296];with_reducible exact H2_)|(have H2_:=(Option.bind_some _ _).symm.trans H;with_reducible exact H2_)|with_reducible exact H|(rw [hy296];exact H)|exact H
    have Ny296:=Am hy296
    clear hy296
    have H':=Am H
    clear H
    have p295:0≤(x4_1:Int):=tD
    have q295:x4_1 < (l0.length:Int):=tD
    obtain ⟨ad295,e295,hx295_0,hx295_1,hx295_2⟩:=at_T36 HR0.out x4_1 p295 q295
    cases e295
    replace hx295_0:=cellU HB.out hx295_0
    replace hx295_1:=cellU HB.out hx295_1
    replace hx295_2:=cellU HB.out hx295_2
    replace p295:=eq_true p295
    replace q295:=eq_true q295
    go_wp2_with (first|((with_reducible refine gate_builtin (b:= .append) (xs:= #[.tmp 16,.tmp 22]) rfl ?_);at_builtin;refine Kd.R_append (Kd.int .i64) (w0:=w) w.heap.size rfl (.tmp 16) (.tmp 22) 23 3 (.int .i64 0) 8 rfl Try.underlying23 info3 rfl (by decide) (by omega) u3 x3_1 ((rd_T36 l0 x4_1).f2) [.int .i64 ((rd_T36 l0 x4_1).f2)] (fun _=>True) (fun _=>False) rfl rfl ?aP (fun _ hk=>hk.elim) ?aF ?aO ?aB ?aS ?aL ?_;(case aP=>exact rfl);(case aB=>exact TB);(case aF=>exact (fun _ _=>trivial));(case aO=>exact (RU HO_3.out));(case aS=>exact (below_size TB));(case aL=>have:=LMc4.out;omega);intro v297 w5 ho hb hg hat;rw [← Ny296.out] at ho;have HO298:=Am (ho);replace HB:=Am (hb);clear HO_3;clear ho hb hg hat))
    go_roundg k1
    case measure=>have:=HK1.out;omega
    case rel=>exact ⟨(y296),(wrap64 (x4_1+1)),TS,H',⟨by have:=HK1.out;omega⟩,⟨RU HO298.out⟩,⟨TB⟩⟩
   rw [if_neg c2] at H
   have c2b0:decide (x4_1 < (l0.length:Int))=false:=decide_eq_false c2
   clear c2
   have H':=Am H
   clear H
   go_wp2
   go_loopg [5,6,7] k1 (fun kq v5 v6 v7 w'=> ∃ (x5_2:List (S40)) (x6_2:Int) (x7_2:Int),v6= .int .i64 x6_2∧v7= .int .i64 x7_2∧Aside0 (q06_Of.l1 kq l0 x3_1 x5_2 x6_2 x7_2=some r)∧Aside0 (kq≤k1)∧Aside0 (Kd.R (Kd.int .i64) 3 w' w.heap.size (fun _=>True) u3 x3_1)∧Aside0 (Kd.R k40 40 w' w.heap.size (fun _=>True) v5 x5_2)∧Aside0 (Below w.heap.size w w'))
   case atStart=>exact ⟨(([]:List (S40))),(0),(1),TS,TS,H',⟨Nat.le_refl _⟩,⟨RU HO_3.out⟩,⟨by first|exact Kd.R_nil _ _ _ _ _|exact Kd.N_nil _ _ _ _ _|exact Kd.V_nil _ _ _ _ _|exact Kd.Q_nil _ _ _ _ _|exact Kd.S_nil _ _ _ _ _⟩,⟨TB⟩⟩
   case round =>
    clear H'
    obtain ⟨x5_2,x6_2,x7_2,rfl,rfl,HA,HK2,HO_3,HO_5,HB⟩:=hrel
    cases gk with
    | zero=>exact absurd HA.out (by simp [q06_Of.l1])
    | succ k2 =>
     have H:=HA.out
     clear HA
     simp only [q06_Of.l1] at H
     by_cases c6:x7_2≤(l0.length:Int)
     rotate_left
     ·
      rw [if_neg c6] at H
      have c6b0:decide (x7_2≤(l0.length:Int))=false:=decide_eq_false c6
      clear c6
      obtain rfl:=Option.some.inj H
      go_wp2
      go_ret
      exact ⟨_,TE,RU HO_5.out,TB⟩
     rw [if_pos c6] at H
     have c6b0:decide (x7_2≤(l0.length:Int))=true:=decide_eq_true c6
     clear c6
     have HC7:=Am H
     clear H
     go_upto_region 11 with (fail)
     go_cut [38] (fun v38 wc=> ∃ (kq:Nat) (x38_6:Bool),v38= .bool x38_6∧Aside0 (q06_Of.j2 kq l0 x3_1 x5_2 x6_2 x7_2 x38_6=some r)∧Aside0 (kq≤k2)∧Aside0 (Kd.R (Kd.int .i64) 3 wc w.heap.size (fun _=>True) u3 x3_1)∧Aside0 (Kd.R k40 40 wc w.heap.size (fun _=>True) u5 x5_2)∧Aside0 (Below w.heap.size w wc))
     case first =>
      have H:=HC7.out
      clear HC7
      by_cases c8:x7_2 < (l0.length:Int)
      rotate_left
      ·
       rw [if_neg c8] at H
       have c8b0:decide (x7_2 < (l0.length:Int))=false:=decide_eq_false c8
       clear c8
       (first|rw [c8b0]|(simp only [i64_w,i32_w];rw [c8b0])|skip)
       have H':=Am H
       clear H
       go_wp2
       go_meet
       case rel=>exact ⟨_,(false),TS,H',⟨by have:=HK1.out;have:=HK2.out;first|omega|exact Nat.le_refl _⟩,⟨RU HO_3.out⟩,⟨RU HO_5.out⟩,⟨TB⟩⟩
      rw [if_pos c8] at H
      have c8b0:decide (x7_2 < (l0.length:Int))=true:=decide_eq_true c8
      clear c8
      (first|rw [c8b0]|(simp only [i64_w,i32_w];rw [c8b0])|skip)
      obtain ⟨t299,A90,H⟩:=Option.bind_eq_some_iff.mp H
      try dsimp only at H
      have A9:=Am A90
      clear A90
      have H':=Am H
      clear H
      obtain ⟨Ao10,co10,eo10⟩:=Kd.R_slice HO_3.out
      subst eo10
      go_wp2_with (first|(go_at_call 38;(with_reducible refine (q06_Joins.calls k2 _ _ x3_1 x7_2 t299 _ ?side1 ?side2 A9.out).mono ?_);(case side1=>exact CU ((Kd.R_reads' HO_3.out).2.2));(case side2=>exact (Kd.R_reads' HO_3.out).2.1);rintro e w11 ⟨rfl,hb⟩;replace HO_3:=Am (Kd.R_below (RU HO_3.out) hb);replace HO_5:=Am (Kd.R_below (RU HO_5.out) hb);replace HB:=Am (below_step TB hb);(try clear hb);(try clear hb2);(try clear hk);(try clear hi)))
      go_meet
      case rel=>exact ⟨_,(t299),TS,H',⟨by have:=HK1.out;have:=HK2.out;first|omega|exact Nat.le_refl _⟩,⟨RU HO_3.out⟩,⟨RU HO_5.out⟩,⟨TB⟩⟩
     case rest =>
      clear HC7
      obtain ⟨kq,x38_6,rfl,HA,HJ6,HO_3,HO_5,HB⟩:=hcut
      cases kq with
      | zero=>exact absurd HA.out (by simp [q06_Of.j2])
      | succ kj6 =>
       have H:=HA.out
       clear HA
       simp only [q06_Of.j2] at H
       by_cases c12:x38_6=true
       ·
        subst c12
        rw [if_pos rfl] at H
        have H':=Am H
        clear H
        go_wp2
        go_roundg kj6
        case measure=>have:=HK1.out;have:=HK2.out;have:=HJ6.out;omega
        case rel=>exact ⟨(x5_2),(x6_2),(wrap64 (x7_2+1)),TS,TS,H',⟨by have:=HK1.out;have:=HK2.out;have:=HJ6.out;omega⟩,⟨RU HO_3.out⟩,⟨RU HO_5.out⟩,⟨TB⟩⟩
       replace c12:=Bool.eq_false_iff.mpr c12
       subst c12
       rw [if_neg (show ¬ (false=true) by decide)] at H
       obtain ⟨c13,H⟩:=ifS H
       have c13b0:decide (0≤x6_2)=true:=decide_eq_true c13
       clear c13
       obtain ⟨c14,H⟩:=ifS H
       have c14b0:decide (x6_2 < (l0.length:Int))=true:=decide_eq_true c14
       clear c14
       obtain ⟨c15,H⟩:=ifS H
       have c15b0:decide (x6_2 < (x3_1.length:Int))=true:=decide_eq_true c15
       clear c15
       have c16b0:=eq_true (tD:0≤x6_2)
       obtain ⟨c17,H⟩:=ifS H
       have c17b0:=eq_true c17
       have c17b1:decide (x6_2≤x7_2)=true:=decide_eq_true c17
       clear c17
       obtain ⟨c18,H⟩:=ifS H
       have c18b0:=eq_true c18
       have c18b1:decide (x7_2≤(x3_1.length:Int))=true:=decide_eq_true c18
       clear c18
       obtain ⟨y302,hy302⟩: ∃ y_:List Int,y_=((x3_1.take (x7_2:Int).toNat).drop (x6_2:Int).toNat):=⟨_,rfl⟩
       replace H:((q06_Wide.f kj6 y302).bind fun t306=>(q06_Of.l2 kj6 l0 x3_1 x5_2 x7_2 x6_2 ((rd_T36 l0 x6_2).f0) 0 x6_2 x7_2 t306 (rd x3_1 x6_2)))=some r:=by first|(rw [hy302];with_reducible exact H)|(have H2_:=(Option.bind_some _ _).symm.trans H;rw [hy302];with_reducible exact H2_)|(have H2_:=(Option.bind_some _ _).symm.trans H;with_reducible exact H2_)|with_reducible exact H|(rw [hy302];exact H)|exact H
       have Ny302:=Am hy302
       clear hy302
       obtain ⟨t306,A190,H⟩:=Option.bind_eq_some_iff.mp H
       try dsimp only at H
       have A19:=Am A190
       clear A190
       have H':=Am H
       clear H
       try go_wp2
       replace HO_3:=Am (Kd.R_drew HO_3.out)
       replace HO_5:=Am (Kd.R_drew HO_5.out)
       replace HB:=Am (below_drew1 HB.out)
       have p300:0≤(x6_2:Int):=tD
       have q300:x6_2 < (l0.length:Int):=tD
       obtain ⟨ad300,e300,hx300_0,hx300_1,hx300_2⟩:=at_T36 HR0.out x6_2 p300 q300
       have hw300_2:=hx300_2
       have hw300_1:=hx300_1
       have hw300_0:=hx300_0
       cases e300
       replace hx300_0:=cellU HB.out hx300_0
       replace hx300_1:=cellU HB.out hx300_1
       replace hx300_2:=cellU HB.out hx300_2
       replace p300:=eq_true p300
       replace q300:=eq_true q300
       obtain ⟨Ao21,co21,eo21⟩:=Kd.R_slice HO_3.out
       (first|subst eo21|(injection eo21 with f1_ f2_ f3_;have f4_:=f1_.symm;have f5_:=f3_.symm;clear f1_ f2_ f3_;subst f4_;subst f5_))
       have p301:0≤(x6_2:Int):=tD
       have q301:x6_2 < (x3_1.length:Int):=tD
       obtain ⟨ad301,e301,hx301_0⟩:=Kd.at_int (Kd.R_reads' HO_3.out).2.2 x6_2 p301 q301
       cases e301
       replace p301:=eq_true p301
       replace q301:=eq_true q301
       have q22:(x7_2:Int)≤((x3_1.length:Int):Int):=tD
       obtain ⟨i022,hi022,_,hsz22,_⟩:=info_parts info3
       have hroom22:x3_1.length≤co21:=(Kd.R_reads' HO_3.out).2.1
       have hC22:Kd.C (Kd.int .i64) _ (some ad301) x3_1.length x3_1:=(Kd.R_reads' HO_3.out).2.2
       have ql22:(x6_2:Int)≤(x7_2:Int):=tD
       have q022:(0:Int)≤(x6_2:Int):=tD
       have hcut22:=cut_mid (P:=Try.prog) 23 3 .i64 .i64 Try.underlying23 hi022 1 hsz22 (some ad301) x3_1.length co21 x6_2 x7_2 q022 ql22 q22 hroom22
       have hr22:=Kd.C_mid (lo:=(x6_2:Int).toNat) (hi:=(x7_2:Int).toNat) (c:=co21) hC22 (by omega) (by omega) hroom22
       obtain ⟨A22,hA22⟩: ∃ A1,A1=(if co21=(x6_2:Int).toNat then (some ad301) else ((some ad301):Option Addr).map (·.add ((x6_2:Int).toNat * 1))):=⟨_,rfl⟩
       obtain ⟨c22,hc22⟩: ∃ c1,c1=co21 - (x6_2:Int).toNat:=⟨_,rfl⟩
       have hy22:y302.length=(x7_2:Int).toNat - (x6_2:Int).toNat:=(by rw [Ny302.out,List.length_drop,List.length_take] <;> omega)
       rw [show ((x3_1).take (x7_2:Int).toNat).drop (x6_2:Int).toNat=y302 from Ny302.out.symm] at hr22
       replace hr22:Kd.C (Kd.int .i64) _ A22 y302.length y302:=(by rw [hA22];exact hr22)
       rw [← hy22,← hA22,← hc22] at hcut22
       have HR305:=Am hr22
       have HC305:=Am (show y302.length≤c22 from by rw [hy22,hc22];exact Nat.sub_le_sub_right (Nat.le_trans (by omega) hroom22) _)
       clear hr22 hC22 hroom22 hi022 hsz22 hc22
       have KY22:=Am hy22
       have KA22:=Am hA22
       clear hy22 hA22
       have KL22:=Am (show (x7_2:Int).toNat≤x3_1.length from by omega)
       have KM22:=Am (show (x6_2:Int).toNat≤(x7_2:Int).toNat from by omega)
       replace q22:=eq_true q22
       refine start_ (n:=19) (S:=fun w'=>w'.cell? (ad300.add ((x6_2).toNat * 3))=some (.int .i64 ((rd_T36 l0 x6_2).f0))∧w'.cell? ⟨(ad300.add ((x6_2).toNat * 3)).block,(ad300.add ((x6_2).toNat * 3)).off+1,none⟩=some (.int .i64 ((rd_T36 l0 x6_2).f1))∧w'.cell? ⟨(ad300.add ((x6_2).toNat * 3)).block,(ad300.add ((x6_2).toNat * 3)).off+2,none⟩=some (.int .i64 ((rd_T36 l0 x6_2).f2))∧w'.cell? (ad301.add (x6_2).toNat)=some (.int .i64 (rd x3_1 x6_2))) (ds:=[]) (bl 19 0) TK rfl rfl ⟨(cellU HB.out hw300_0),(cellU HB.out hw300_1),(cellU HB.out hw300_2),hx301_0⟩ (fun hHeld=>?_);refine with_tabW q06_Of.tab12 q06_Of.bits12 (fun HT_ HW_=>?_)
       generalize wc.drew=w20 at HO_3 HO_5 HB HR305 hx300_0 hx300_1 hx300_2 hx301_0 hHeld ⊢
       refine pureS (i:=0) (N:=some 39) (bl 19 1) rfl rfl (any_of HT_.out TK) ?_
       refine pureS (i:=1) (N:=some 40) (bl 19 3) rfl rfl (any_of HT_.out TK) ?_
       refine pureS (i:=2) (N:=some 41) (bl 19 7) rfl rfl (any_of HT_.out TK) ?_
       refine pureS (i:=3) (N:=some 42) (bl 19 15) rfl rfl (any_of HT_.out TK) ?_
       refine pureS (i:=5) (N:=some 44) (bl 19 47) rfl rfl (any_of HT_.out TK) ?_
       refine pureS (i:=6) (N:=some 45) (bl 19 111) rfl rfl (any_of HT_.out TK) ?_
       refine pureS (i:=7) (N:=some 46) (bl 19 239) rfl rfl (any_of HT_.out TK) ?_
       refine pureS (i:=8) (N:=some 47) (bl 19 495) rfl rfl (any_of HT_.out TK) ?_
       refine pureS (i:=9) (N:=some 48) (bl 19 1007) rfl rfl (any_of HT_.out TK) ?_
       refine pureS (i:=11) (N:=some 50) (bl 19 3055) rfl rfl (any_of HT_.out TK) ?_
       refine pureS (i:=12) (N:=some 51) (bl 19 7151) rfl rfl (any_of HT_.out TK) ?_
       refine pureS (i:=13) (N:=some 52) (bl 19 15343) rfl rfl (any_of HT_.out TK) ?_
       refine pureS (i:=14) (N:=some 53) (bl 19 31727) rfl rfl (any_of HT_.out TK) ?_
       refine take_ (i:=4) (N:=some 43) (v:=?_) (a':=?_) (bl 19 31743) rfl rfl (take_ofW HT_.out HW_.out TK) (fun _ _ _ h=>h) (Or.inl ⟨by rfl,?_⟩) hHeld ?_ ?_
       rotate_left
       ·
        rintro w' ⟨s0,s1,s2,s3⟩
        go_simp
        with_reducible rfl
       rotate_left
       ·
        simp only [PT]
        rfl
       refine take_ (i:=10) (N:=some 49) (v:=?_) (a':=?_) (bl 19 32767) rfl rfl (take_ofW HT_.out HW_.out TK) (fun _ _ _ h=>h) (Or.inl ⟨by rfl,?_⟩) hHeld ?_ ?_
       rotate_left
       ·
        rintro w' ⟨s0,s1,s2,s3⟩
        go_simp
        with_reducible rfl
       rotate_left
       ·
        simp only [PT]
        rfl
       refine join_ (σ:=Nat) 1 (bl 19 262143) (fun s_=>[(54,.int .i64 t306),(8,.pointer (some ⟨s_,0,none⟩)),(55,.agg #[.int .i64 ((rd_T36 l0 x6_2).f0),.int .i64 0,.int .i64 x6_2,.int .i64 x7_2,.int .i64 t306,.int .i64 (rd x3_1 x6_2)])]) (fun s_ w'=>(w'.cell? (ad300.add ((x6_2).toNat * 3))=some (.int .i64 ((rd_T36 l0 x6_2).f0))∧w'.cell? ⟨(ad300.add ((x6_2).toNat * 3)).block,(ad300.add ((x6_2).toNat * 3)).off+1,none⟩=some (.int .i64 ((rd_T36 l0 x6_2).f1))∧w'.cell? ⟨(ad300.add ((x6_2).toNat * 3)).block,(ad300.add ((x6_2).toNat * 3)).off+2,none⟩=some (.int .i64 ((rd_T36 l0 x6_2).f2))∧w'.cell? (ad301.add (x6_2).toNat)=some (.int .i64 (rd x3_1 x6_2)))∧(Kd.R (Kd.int .i64) 3 w' w.heap.size (fun _=>True) (.slice (some ad301) x3_1.length co21) x3_1)∧(Kd.R k40 40 w' w.heap.size (fun k_=>k_≠s_) u5 x5_2)∧(w'.heap[s_]?=some (.cells #[.int .i64 0,.int .i64 0,.int .i64 0,.int .i64 0,.int .i64 0,.int .i64 0] 40 (0,0)))∧(w.heap.size≤s_)∧(w.heap.size≤s_)∧(Below w.heap.size w w')) ?_ ?_
       rotate_left
       ·
        intro hCont
        refine two_ (i:=15) (j:=17) (Ni:=some 54) (Nj:=some 8) (bl 19 65535) (bl 19 163839) rfl rfl rfl rfl (two_of HT_.out TK) (by decide) (by decide) (fun K hK=>?_) (fun K hK=>?_)
        ·
         skip
         refine goes_ Try.func39 TK rfl #[.slice A22 y302.length c22] (by rfl) rfl rfl TM ?_
         with_reducible refine (q06_Wide.calls kj6 _ _ y302 t306 _ ?side1 ?side2 A19.out).mono ?_
         (case side1=>exact CU (by repeat (first|(with_reducible exact HR305.out)|(with_reducible refine Kd.C_alloc ?_ _)|(with_reducible refine Kd.C_drewN ?_ _)|(with_reducible refine Kd.C_drew ?_)|exact HR305.out)))
         (case side2=>exact HC305.out)
         rintro e w23 ⟨rfl,hb⟩
         have HS3_:=(hb.cell (World.block_lt_of_cell? _ _ (hHeld.2.2.2))).trans (hHeld.2.2.2)
         refine ⟨_,rfl,?_⟩
         replace HO_3:=Am (Kd.R_below (RU HO_3.out) hb)
         replace HO_5:=Am (Kd.R_below (RU HO_5.out) hb)
         replace HR305:=Am (Kd.C_below (by repeat (first|(with_reducible exact HR305.out)|(with_reducible refine Kd.C_alloc ?_ _)|(with_reducible refine Kd.C_drewN ?_ _)|(with_reducible refine Kd.C_drew ?_)|exact HR305.out)) hb)
         replace HB:=Am (below_step TB hb)
         (try clear hb)
         (try clear hb2)
         (try clear hk)
         (try clear hi)
         refine hK.out _ _ ⟨(cellU HB.out hw300_0),(cellU HB.out hw300_1),(cellU HB.out hw300_2),HS3_⟩ (fun hHeld=>?_)
         clear hK K
         refine norm_ (a':=?_) ?_ ?_
         rotate_left
         ·
          show Act.put _ (some 54) _=_
          simp only [PT]
          rfl
         refine pureS (i:=16) (N:=some 55) (bl 19 131071) rfl rfl (any_of HT_.out TK) ?_
         refine one_ (i:=17) (N:=some 8) (bl 19 262143) rfl rfl (one_of HT_.out TK) (by decide) (fun K hK=>?_)
         refine box_step ?hg (N:=8) ?hd (cs:= #[.int .i64 0,.int .i64 0,.int .i64 0,.int .i64 0,.int .i64 0,.int .i64 0]) (t:=40) ?hr ?_;(case hd=>rfl);(case hg=>rfl);(case hr=>exact TG)
         intro gb307 hg w24 hbox hb
         have HS3_:=(hb.cell (World.block_lt_of_cell? _ _ (hHeld.2.2.2))).trans (hHeld.2.2.2)
         replace HO_3:=Am (Kd.R_below (RU HO_3.out) hb)
         replace HO_5:=Am (Kd.R_below (Kd.R_elderB (RU HO_5.out) gb307 (Nat.le_of_eq hg.symm)) hb)
         replace HR305:=Am (Kd.C_below (by repeat (first|(with_reducible exact HR305.out)|(with_reducible refine Kd.C_alloc ?_ _)|(with_reducible refine Kd.C_drewN ?_ _)|(with_reducible refine Kd.C_drew ?_)|exact HR305.out)) hb)
         have BK307:=Am (hbox)
         have GW307:=Am (gwS hg)
         have GE307:=Am (gwS hg)
         replace HB:=Am (below_step TB hb)
         clear hb hbox hg
         refine hK.out _ _ ⟨(cellU HB.out hw300_0),(cellU HB.out hw300_1),(cellU HB.out hw300_2),HS3_⟩ (fun hHeld=>?_)
         clear hK K
         refine norm_ (a':=?_) ?_ ?_
         rotate_left
         ·
          show Act.put _ (some 8) _=_
          simp only [PT]
          rfl
         exact norm_ (by simp only [putAll,Act.put,List.setIfInBounds_toArray,List.set_cons_zero,List.set_cons_succ]) (hCont (gb307) _ ⟨hHeld,(RU HO_3.out),(RU (Kd.R_mono HO_5.out (fun _ hk=>hk.2))),(blkU BK307.out),GW307.out,GE307.out,TB⟩)
        ·
         skip
         refine box_step ?hg (N:=8) ?hd (cs:= #[.int .i64 0,.int .i64 0,.int .i64 0,.int .i64 0,.int .i64 0,.int .i64 0]) (t:=40) ?hr ?_;(case hd=>rfl);(case hg=>rfl);(case hr=>exact TG)
         intro gb307 hg w23 hbox hb
         have HS3_:=(hb.cell (World.block_lt_of_cell? _ _ (hHeld.2.2.2))).trans (hHeld.2.2.2)
         replace HO_3:=Am (Kd.R_below (RU HO_3.out) hb)
         replace HO_5:=Am (Kd.R_below (Kd.R_elderB (RU HO_5.out) gb307 (Nat.le_of_eq hg.symm)) hb)
         replace HR305:=Am (Kd.C_below (by repeat (first|(with_reducible exact HR305.out)|(with_reducible refine Kd.C_alloc ?_ _)|(with_reducible refine Kd.C_drewN ?_ _)|(with_reducible refine Kd.C_drew ?_)|exact HR305.out)) hb)
         have BK307:=Am (hbox)
         have GW307:=Am (gwS hg)
         have GE307:=Am (gwS hg)
         replace HB:=Am (below_step TB hb)
         clear hb hbox hg
         refine hK.out _ _ ⟨(cellU HB.out hw300_0),(cellU HB.out hw300_1),(cellU HB.out hw300_2),HS3_⟩ (fun hHeld=>?_)
         clear hK K
         refine norm_ (a':=?_) ?_ ?_
         rotate_left
         ·
          show Act.put _ (some 8) _=_
          simp only [PT]
          rfl
         refine one_ (i:=15) (N:=some 54) (bl 19 196607) rfl rfl (one_of HT_.out TK) (by decide) (fun K hK=>?_)
         refine goes_ Try.func39 TK rfl #[.slice A22 y302.length c22] (by rfl) rfl rfl TM ?_
         with_reducible refine (q06_Wide.calls kj6 _ _ y302 t306 _ ?side1 ?side2 A19.out).mono ?_
         (case side1=>exact CU (by repeat (first|(with_reducible exact HR305.out)|(with_reducible refine Kd.C_alloc ?_ _)|(with_reducible refine Kd.C_drewN ?_ _)|(with_reducible refine Kd.C_drew ?_)|exact HR305.out)))
         (case side2=>exact HC305.out)
         rintro e w24 ⟨rfl,hb⟩
         have HS3_:=(hb.cell (World.block_lt_of_cell? _ _ (hHeld.2.2.2))).trans (hHeld.2.2.2)
         refine ⟨_,rfl,?_⟩
         replace HO_3:=Am (Kd.R_below (RU HO_3.out) hb)
         replace HO_5:=Am (Kd.R_below (RU HO_5.out) hb)
         replace HR305:=Am (Kd.C_below (by repeat (first|(with_reducible exact HR305.out)|(with_reducible refine Kd.C_alloc ?_ _)|(with_reducible refine Kd.C_drewN ?_ _)|(with_reducible refine Kd.C_drew ?_)|exact HR305.out)) hb)
         replace BK307:=Am (blk_below (blkU BK307.out) hb)
         replace HB:=Am (below_step TB hb)
         (try clear hb)
         (try clear hb2)
         (try clear hk)
         (try clear hi)
         refine hK.out _ _ ⟨(cellU HB.out hw300_0),(cellU HB.out hw300_1),(cellU HB.out hw300_2),HS3_⟩ (fun hHeld=>?_)
         clear hK K
         refine norm_ (a':=?_) ?_ ?_
         rotate_left
         ·
          show Act.put _ (some 54) _=_
          simp only [PT]
          rfl
         refine pureS (i:=16) (N:=some 55) (bl 19 262143) rfl rfl (any_of HT_.out TK) ?_
         exact norm_ (by simp only [putAll,Act.put,List.setIfInBounds_toArray,List.set_cons_zero,List.set_cons_succ]) (hCont (gb307) _ ⟨hHeld,(RU HO_3.out),(RU (Kd.R_mono HO_5.out (fun _ hk=>hk.2))),(blkU BK307.out),GW307.out,GE307.out,TB⟩)
       rintro gb307 w25 ⟨hS_,h0_,h1_,h2_,h3_,h4_,h5_⟩
       replace HO_3:Aside0 (Kd.R (Kd.int .i64) 3 w25 w.heap.size (fun _=>True) (.slice (some ad301) x3_1.length co21) x3_1):=⟨h0_⟩
       replace HO_5:Aside0 (Kd.R k40 40 w25 w.heap.size (fun k_=>k_≠gb307) u5 x5_2):=⟨h1_⟩
       have BK307:Aside0 (w25.heap[gb307]?=some (.cells #[.int .i64 0,.int .i64 0,.int .i64 0,.int .i64 0,.int .i64 0,.int .i64 0] 40 (0,0))):=⟨h2_⟩
       have GW307:Aside0 (w.heap.size≤gb307):=⟨h3_⟩
       have GE307:Aside0 (w.heap.size≤gb307):=⟨h4_⟩
       replace HB:Aside0 (Below w.heap.size w w25):=⟨h5_⟩
       clear h0_ h1_ h2_ h3_ h4_ h5_
       have hHeld:w25.cell? (ad300.add ((x6_2).toNat * 3))=some (.int .i64 ((rd_T36 l0 x6_2).f0))∧w25.cell? ⟨(ad300.add ((x6_2).toNat * 3)).block,(ad300.add ((x6_2).toNat * 3)).off+1,none⟩=some (.int .i64 ((rd_T36 l0 x6_2).f1))∧w25.cell? ⟨(ad300.add ((x6_2).toNat * 3)).block,(ad300.add ((x6_2).toNat * 3)).off+2,none⟩=some (.int .i64 ((rd_T36 l0 x6_2).f2))∧w25.cell? (ad301.add (x6_2).toNat)=some (.int .i64 (rd x3_1 x6_2)):=hS_
       refine norm_ (a':=?_) ?_ ?_
       rotate_left
       ·
        simp only [putAll,Act.put,List.setIfInBounds_toArray,List.set_cons_zero,List.set_cons_succ]
        rfl
       refine one_ (i:=18) (N:=none) (bl 19 524287) rfl rfl (one_of HT_.out TK) (by decide) (fun K hK=>?_)
       have hs26:w25.cell? ⟨gb307,0,none⟩=some (.int .i64 0):=(blk_cell BK307.out 0).trans rfl
       have hfs26:=blk_frozen BK307.out 0
       have hs27:w25.cell? ⟨gb307,1,none⟩=some (.int .i64 0):=(blk_cell BK307.out 1).trans rfl
       have hfs27:=blk_frozen BK307.out 1
       have hs28:w25.cell? ⟨gb307,2,none⟩=some (.int .i64 0):=(blk_cell BK307.out 2).trans rfl
       have hfs28:=blk_frozen BK307.out 2
       have hs29:w25.cell? ⟨gb307,3,none⟩=some (.int .i64 0):=(blk_cell BK307.out 3).trans rfl
       have hfs29:=blk_frozen BK307.out 3
       have hs30:w25.cell? ⟨gb307,4,none⟩=some (.int .i64 0):=(blk_cell BK307.out 4).trans rfl
       have hfs30:=blk_frozen BK307.out 4
       have hs31:w25.cell? ⟨gb307,5,none⟩=some (.int .i64 0):=(blk_cell BK307.out 5).trans rfl
       have hfs31:=blk_frozen BK307.out 5
       refine skip_ (w1:=?_) (by rfl) rfl ?_ ?_
       rotate_left
       ·
        go_simp
        rfl
       refine hK.out _ _ ⟨((cell_far (p:=⟨gb307,_,none⟩) (TN hw300_0 GW307.out) _).trans (((cell_far (p:=⟨gb307,_,none⟩) (TN hw300_0 GW307.out) _).trans (((cell_far (p:=⟨gb307,_,none⟩) (TN hw300_0 GW307.out) _).trans (((cell_far (p:=⟨gb307,_,none⟩) (TN hw300_0 GW307.out) _).trans (((cell_far (p:=⟨gb307,_,none⟩) (TN hw300_0 GW307.out) _).trans (((cell_far (p:=⟨gb307,_,none⟩) (TN hw300_0 GW307.out) _).trans (hHeld.1)))))))))))),((cell_far (p:=⟨gb307,_,none⟩) (TN hw300_1 GW307.out) _).trans (((cell_far (p:=⟨gb307,_,none⟩) (TN hw300_1 GW307.out) _).trans (((cell_far (p:=⟨gb307,_,none⟩) (TN hw300_1 GW307.out) _).trans (((cell_far (p:=⟨gb307,_,none⟩) (TN hw300_1 GW307.out) _).trans (((cell_far (p:=⟨gb307,_,none⟩) (TN hw300_1 GW307.out) _).trans (((cell_far (p:=⟨gb307,_,none⟩) (TN hw300_1 GW307.out) _).trans (hHeld.2.1)))))))))))),((cell_far (p:=⟨gb307,_,none⟩) (TN hw300_2 GW307.out) _).trans (((cell_far (p:=⟨gb307,_,none⟩) (TN hw300_2 GW307.out) _).trans (((cell_far (p:=⟨gb307,_,none⟩) (TN hw300_2 GW307.out) _).trans (((cell_far (p:=⟨gb307,_,none⟩) (TN hw300_2 GW307.out) _).trans (((cell_far (p:=⟨gb307,_,none⟩) (TN hw300_2 GW307.out) _).trans (((cell_far (p:=⟨gb307,_,none⟩) (TN hw300_2 GW307.out) _).trans (hHeld.2.2.1)))))))))))),((cell_far (p:=⟨gb307,_,none⟩) (by first|exact Kd.own_blk (Kd.R_ne HO_3.out BK307.out (by decide))|(rw [add_block];exact Kd.own_blk (Kd.R_ne HO_3.out BK307.out (by decide)))|(show (Addr.add _ _).block≠_;rw [add_block];exact Kd.own_blk (Kd.R_ne HO_3.out BK307.out (by decide)))|(dsimp only;exact Kd.own_blk (Kd.R_ne HO_3.out BK307.out (by decide)))) _).trans (((cell_far (p:=⟨gb307,_,none⟩) (by first|exact Kd.own_blk (Kd.R_ne HO_3.out BK307.out (by decide))|(rw [add_block];exact Kd.own_blk (Kd.R_ne HO_3.out BK307.out (by decide)))|(show (Addr.add _ _).block≠_;rw [add_block];exact Kd.own_blk (Kd.R_ne HO_3.out BK307.out (by decide)))|(dsimp only;exact Kd.own_blk (Kd.R_ne HO_3.out BK307.out (by decide)))) _).trans (((cell_far (p:=⟨gb307,_,none⟩) (by first|exact Kd.own_blk (Kd.R_ne HO_3.out BK307.out (by decide))|(rw [add_block];exact Kd.own_blk (Kd.R_ne HO_3.out BK307.out (by decide)))|(show (Addr.add _ _).block≠_;rw [add_block];exact Kd.own_blk (Kd.R_ne HO_3.out BK307.out (by decide)))|(dsimp only;exact Kd.own_blk (Kd.R_ne HO_3.out BK307.out (by decide)))) _).trans (((cell_far (p:=⟨gb307,_,none⟩) (by first|exact Kd.own_blk (Kd.R_ne HO_3.out BK307.out (by decide))|(rw [add_block];exact Kd.own_blk (Kd.R_ne HO_3.out BK307.out (by decide)))|(show (Addr.add _ _).block≠_;rw [add_block];exact Kd.own_blk (Kd.R_ne HO_3.out BK307.out (by decide)))|(dsimp only;exact Kd.own_blk (Kd.R_ne HO_3.out BK307.out (by decide)))) _).trans (((cell_far (p:=⟨gb307,_,none⟩) (by first|exact Kd.own_blk (Kd.R_ne HO_3.out BK307.out (by decide))|(rw [add_block];exact Kd.own_blk (Kd.R_ne HO_3.out BK307.out (by decide)))|(show (Addr.add _ _).block≠_;rw [add_block];exact Kd.own_blk (Kd.R_ne HO_3.out BK307.out (by decide)))|(dsimp only;exact Kd.own_blk (Kd.R_ne HO_3.out BK307.out (by decide)))) _).trans (((cell_far (p:=⟨gb307,_,none⟩) (by first|exact Kd.own_blk (Kd.R_ne HO_3.out BK307.out (by decide))|(rw [add_block];exact Kd.own_blk (Kd.R_ne HO_3.out BK307.out (by decide)))|(show (Addr.add _ _).block≠_;rw [add_block];exact Kd.own_blk (Kd.R_ne HO_3.out BK307.out (by decide)))|(dsimp only;exact Kd.own_blk (Kd.R_ne HO_3.out BK307.out (by decide)))) _).trans (hHeld.2.2.2))))))))))))⟩ (fun hHeld=>?_)
       clear hK K
       refine done_ (done_of HT_.out TK) ?_
       try go_wp2
       go_loopg [9] kj6 (fun kq v9 w'=> ∃ (x9_4:Int) (x308001_4:Int),v9= .int .i64 x9_4∧Aside0 (q06_Of.l2 kq l0 x3_1 x5_2 x7_2 x9_4 ((rd_T36 l0 x6_2).f0) x308001_4 x6_2 x7_2 t306 (rd x3_1 x6_2)=some r)∧Aside0 (kq≤kj6)∧Aside0 (Kd.R (Kd.int .i64) 3 w' w.heap.size (fun _=>True) (.slice (some ad301) x3_1.length co21) x3_1)∧Aside0 (Kd.R k40 40 w' w.heap.size (fun k_=>k_≠gb307) u5 x5_2)∧Aside0 (w'.heap[gb307]?=some (.cells #[.int .i64 ((rd_T36 l0 x6_2).f0),.int .i64 x308001_4,.int .i64 x6_2,.int .i64 x7_2,.int .i64 t306,.int .i64 (rd x3_1 x6_2)] 40 (0,0)))∧Aside0 (Below w.heap.size w w'))
       case atStart=>exact ⟨(x6_2),(0),TS,H',⟨Nat.le_refl _⟩,⟨RU (Kd.R_mono (Kd.R_far (p:=⟨gb307,5,none⟩) (Kd.R_far (p:=⟨gb307,4,none⟩) (Kd.R_far (p:=⟨gb307,3,none⟩) (Kd.R_far (p:=⟨gb307,2,none⟩) (Kd.R_far (p:=⟨gb307,1,none⟩) (Kd.R_far (p:=⟨gb307,0,none⟩) (Kd.R_types HO_3.out BK307.out (by decide)) (fun _ hk=>hk.2) (.int .i64 ((rd_T36 l0 x6_2).f0))) (fun _ hk=>hk.2) (.int .i64 0)) (fun _ hk=>hk.2) (.int .i64 x6_2)) (fun _ hk=>hk.2) (.int .i64 x7_2)) (fun _ hk=>hk.2) (.int .i64 t306)) (fun _ hk=>hk.2) (.int .i64 (rd x3_1 x6_2))) (fun _ hk=>trivial))⟩,⟨RU (Kd.R_mono (Kd.R_far (p:=⟨gb307,5,none⟩) (Kd.R_far (p:=⟨gb307,4,none⟩) (Kd.R_far (p:=⟨gb307,3,none⟩) (Kd.R_far (p:=⟨gb307,2,none⟩) (Kd.R_far (p:=⟨gb307,1,none⟩) (Kd.R_far (p:=⟨gb307,0,none⟩) (Kd.R_mono HO_5.out (fun k_ hk=>(⟨hk,hk⟩:_∧k_≠gb307))) (fun _ hk=>hk.2) (.int .i64 ((rd_T36 l0 x6_2).f0))) (fun _ hk=>hk.2) (.int .i64 0)) (fun _ hk=>hk.2) (.int .i64 x6_2)) (fun _ hk=>hk.2) (.int .i64 x7_2)) (fun _ hk=>hk.2) (.int .i64 t306)) (fun _ hk=>hk.2) (.int .i64 (rd x3_1 x6_2))) (fun _ hk=>hk.1))⟩,⟨by refine blk_put (cs:= #[.int .i64 ((rd_T36 l0 x6_2).f0),.int .i64 0,.int .i64 x6_2,.int .i64 x7_2,.int .i64 t306,.int .i64 0]) ?_ 5 _ rfl;refine blk_put (cs:= #[.int .i64 ((rd_T36 l0 x6_2).f0),.int .i64 0,.int .i64 x6_2,.int .i64 x7_2,.int .i64 0,.int .i64 0]) ?_ 4 _ rfl;refine blk_put (cs:= #[.int .i64 ((rd_T36 l0 x6_2).f0),.int .i64 0,.int .i64 x6_2,.int .i64 0,.int .i64 0,.int .i64 0]) ?_ 3 _ rfl;refine blk_put (cs:= #[.int .i64 ((rd_T36 l0 x6_2).f0),.int .i64 0,.int .i64 0,.int .i64 0,.int .i64 0,.int .i64 0]) ?_ 2 _ rfl;refine blk_put (cs:= #[.int .i64 ((rd_T36 l0 x6_2).f0),.int .i64 0,.int .i64 0,.int .i64 0,.int .i64 0,.int .i64 0]) ?_ 1 _ rfl;refine blk_put (cs:= #[.int .i64 0,.int .i64 0,.int .i64 0,.int .i64 0,.int .i64 0,.int .i64 0]) ?_ 0 _ rfl;exact BK307.out⟩,⟨TB⟩⟩
       case round =>
        clear H'
        obtain ⟨x9_4,x308001_4,rfl,HA,HK4,HO_3,HO_5,BK307,HB⟩:=hrel
        cases gk with
        | zero=>exact absurd HA.out (by simp [q06_Of.l2])
        | succ k4 =>
         have H:=HA.out
         clear HA
         simp only [q06_Of.l2] at H
         by_cases c32:x9_4 < x7_2
         rotate_left
         ·
          rw [if_neg c32] at H
          have c32b0:decide (x9_4 < x7_2)=false:=decide_eq_false c32
          clear c32
          obtain ⟨c37,H⟩:=ifS H
          have LMc37:=Am c37
          clear c37
          obtain ⟨y309,hy309⟩: ∃ y_:List (S40),y_=(x5_2++[(⟨((rd_T36 l0 x6_2).f0),x308001_4,x6_2,x7_2,t306,(rd x3_1 x6_2)⟩:S40)]):=⟨_,rfl⟩
          replace H:(q06_Of.l1 k4 l0 x3_1 y309 x7_2 (wrap64 (x7_2+1)))=some r:=by first|(rw [hy309];with_reducible exact H)|(have H2_:=(Option.bind_some _ _).symm.trans H;rw [hy309];with_reducible exact H2_)|(have H2_:=(Option.bind_some _ _).symm.trans H;with_reducible exact H2_)|with_reducible exact H|(rw [hy309];exact H)|exact H
          have Ny309:=Am hy309
          clear hy309
          have H':=Am H
          clear H
          obtain ⟨hcz38_0,hcz38_1,hcz38_2,hcz38_3,hcz38_4,hcz38_5⟩:=blkC6 BK307.out
          obtain ⟨hfz38_0,hfz38_1,hfz38_2,hfz38_3,hfz38_4,hfz38_5⟩:=blkF6 BK307.out
          go_wp2_with (first|((with_reducible refine gate_builtin (b:= .append) (xs:= #[.tmp 71,.tmp 73]) rfl ?_);at_builtin;refine Kd.R_append k40 (w0:=w) w.heap.size rfl (.tmp 71) (.tmp 73) 37 40 (.agg #[(.int .i64 0),(.int .i64 0),(.int .i64 0),(.int .i64 0),(.int .i64 0),(.int .i64 0)]) 48 rfl Try.underlying37 info40 rfl (by decide) (by omega) u5 x5_2 (⟨((rd_T36 l0 x6_2).f0),x308001_4,x6_2,x7_2,t306,(rd x3_1 x6_2)⟩:S40) [.int .i64 ((rd_T36 l0 x6_2).f0),.int .i64 x308001_4,.int .i64 x6_2,.int .i64 x7_2,.int .i64 t306,.int .i64 (rd x3_1 x6_2)] (fun k_=>k_≠gb307) (fun _=>False) rfl rfl ?aP (fun _ hk=>hk.elim) ?aF ?aO ?aB ?aS ?aL ?_;(case aP=>exact k40_mkM _ _ _ (⟨((rd_T36 l0 x6_2).f0),x308001_4,x6_2,x7_2,t306,(rd x3_1 x6_2)⟩:S40));(case aB=>exact TB);(case aF=>exact (fun k_ hk=>Kd.freshB (g:=gb307) (o:= .cells #[.int .i64 ((rd_T36 l0 x6_2).f0),.int .i64 x308001_4,.int .i64 x6_2,.int .i64 x7_2,.int .i64 t306,.int .i64 (rd x3_1 x6_2)] 40 (0,0)) (blkU BK307.out) k_ hk));(case aO=>exact (RU HO_5.out));(case aS=>exact (below_size TB));(case aL=>have:=LMc37.out;omega);intro v310 w39 ho hb hg hat;rw [← Ny309.out] at ho;replace HO_3:=Am (Kd.R_over' (RU HO_3.out) (Kd.R_typed (RU HO_5.out)) (by decide) hg);replace BK307:=Am (blk_grown (g:=gb307) (o:= .cells #[.int .i64 ((rd_T36 l0 x6_2).f0),.int .i64 x308001_4,.int .i64 x6_2,.int .i64 x7_2,.int .i64 t306,.int .i64 (rd x3_1 x6_2)] 40 (0,0)) (blkU BK307.out) hg (Kd.R_away HO_5.out (fun _ hk=>hk)));have HO311:=Am (ho);replace HB:=Am (hb);clear HO_5;clear ho hb hg hat))
          go_roundg k4
          case measure=>have:=HK1.out;have:=HK2.out;have:=HJ6.out;have:=HK4.out;omega
          case rel=>exact ⟨(y309),(x7_2),(wrap64 (x7_2+1)),TS,TS,H',⟨by have:=HK1.out;have:=HK2.out;have:=HJ6.out;have:=HK4.out;omega⟩,⟨RU HO_3.out⟩,⟨RU (Kd.R_mono HO311.out (fun _ hk=>trivial))⟩,⟨TB⟩⟩
         rw [if_pos c32] at H
         have c32b0:decide (x9_4 < x7_2)=true:=decide_eq_true c32
         clear c32
         obtain ⟨c33,H⟩:=ifS H
         have c33b0:decide (0≤x9_4)=true:=decide_eq_true c33
         clear c33
         obtain ⟨c34,H⟩:=ifS H
         have c34b0:decide (x9_4 < (l0.length:Int))=true:=decide_eq_true c34
         clear c34
         have H':=Am H
         clear H
         try go_wp2
         replace HO_3:=Am (Kd.R_drew HO_3.out)
         replace HO_5:=Am (Kd.R_drew HO_5.out)
         replace BK307:=Am (blk_drew BK307.out)
         replace HB:=Am (below_drew1 HB.out)
         have p308:0≤(x9_4:Int):=tD
         have q308:x9_4 < (l0.length:Int):=tD
         obtain ⟨ad308,e308,hx308_0,hx308_1,hx308_2⟩:=at_T36 HR0.out x9_4 p308 q308
         have hw308_2:=hx308_2
         have hw308_1:=hx308_1
         have hw308_0:=hx308_0
         obtain rfl:ad300=ad308:=(by injection e308)
         replace hx308_0:=cellU HB.out hx308_0
         replace hx308_1:=cellU HB.out hx308_1
         replace hx308_2:=cellU HB.out hx308_2
         replace p308:=eq_true p308
         replace q308:=eq_true q308
         refine start_ (n:=10) (S:=fun w'=>w'.cell? ⟨gb307,0,none⟩=some (.int .i64 ((rd_T36 l0 x6_2).f0))∧w'.cell? ⟨gb307,1,none⟩=some (.int .i64 x308001_4)∧w'.cell? ⟨gb307,2,none⟩=some (.int .i64 x6_2)∧w'.cell? ⟨gb307,3,none⟩=some (.int .i64 x7_2)∧w'.cell? ⟨gb307,4,none⟩=some (.int .i64 t306)∧w'.cell? ⟨gb307,5,none⟩=some (.int .i64 (rd x3_1 x6_2))∧w'.cell? (ad300.add ((x9_4).toNat * 3))=some (.int .i64 ((rd_T36 l0 x9_4).f0))∧w'.cell? ⟨(ad300.add ((x9_4).toNat * 3)).block,(ad300.add ((x9_4).toNat * 3)).off+1,none⟩=some (.int .i64 ((rd_T36 l0 x9_4).f1))∧w'.cell? ⟨(ad300.add ((x9_4).toNat * 3)).block,(ad300.add ((x9_4).toNat * 3)).off+2,none⟩=some (.int .i64 ((rd_T36 l0 x9_4).f2))) (ds:=[9]) (bl 10 0) TK rfl rfl ⟨(blk_cell BK307.out 0).trans rfl,(blk_cell BK307.out 1).trans rfl,(blk_cell BK307.out 2).trans rfl,(blk_cell BK307.out 3).trans rfl,(blk_cell BK307.out 4).trans rfl,(blk_cell BK307.out 5).trans rfl,(cellU HB.out hw308_0),(cellU HB.out hw308_1),(cellU HB.out hw308_2)⟩ (fun hHeld=>?_);refine with_tabW q06_Of.tab16 q06_Of.bits16 (fun HT_ HW_=>?_)
         generalize wr.drew=w35 at HO_3 HO_5 BK307 HB hx308_0 hx308_1 hx308_2 hHeld ⊢
         refine pureS (i:=0) (N:=some 62) (bl 10 1) rfl rfl (any_of HT_.out TK) ?_
         refine pureS (i:=2) (N:=some 64) (bl 10 5) rfl rfl (any_of HT_.out TK) ?_
         refine pureS (i:=3) (N:=some 65) (bl 10 13) rfl rfl (any_of HT_.out TK) ?_
         refine pureS (i:=4) (N:=some 66) (bl 10 29) rfl rfl (any_of HT_.out TK) ?_
         refine pureS (i:=5) (N:=some 67) (bl 10 61) rfl rfl (any_of HT_.out TK) ?_
         refine take_ (i:=1) (N:=some 63) (v:=?_) (a':=?_) (bl 10 63) rfl rfl (take_ofW HT_.out HW_.out TK) (fun _ _ _ h=>h) (Or.inl ⟨by rfl,?_⟩) hHeld ?_ ?_
         rotate_left
         ·
          rintro w' ⟨s0,s1,s2,s3,s4,s5,s6,s7,s8⟩
          go_simp
          with_reducible rfl
         rotate_left
         ·
          simp only [PT]
          rfl
         refine take_ (i:=6) (N:=some 68) (v:=?_) (a':=?_) (bl 10 127) rfl rfl (take_ofW HT_.out HW_.out TK) (fun _ _ _ h=>h) (Or.inl ⟨by rfl,?_⟩) hHeld ?_ ?_
         rotate_left
         ·
          rintro w' ⟨s0,s1,s2,s3,s4,s5,s6,s7,s8⟩
          go_simp
          with_reducible rfl
         rotate_left
         ·
          simp only [PT]
          rfl
         refine pureS (i:=7) (N:=some 69) (bl 10 255) rfl rfl (any_of HT_.out TK) ?_
         refine pureS (i:=8) (N:=some 70) (bl 10 511) rfl rfl (any_of HT_.out TK) ?_
         refine last_ (i:=9) (N:=none) (bl 10 1023) rfl rfl (one_of HT_.out TK) (by decide) (fun K hK=>?_)
         have hs36:w35.cell? ⟨gb307,1,none⟩=some (.int .i64 x308001_4):=(blk_cell BK307.out 1).trans rfl
         have hfs36:=blk_frozen BK307.out 1
         refine skip_ (w1:=?_) (by rfl) rfl ?_ ?_
         rotate_left
         ·
          go_simp
          rfl
         refine hK.out _ _ ?_
         clear hK K
         refine done_ (done_of HT_.out TK) ?_
         try go_wp2
         go_roundg k4
         case measure=>have:=HK1.out;have:=HK2.out;have:=HJ6.out;have:=HK4.out;omega
         case rel=>exact ⟨(wrap64 (x9_4+1)),(wrap64 (x308001_4+((rd_T36 l0 x9_4).f1))),TS,H',⟨by have:=HK1.out;have:=HK2.out;have:=HJ6.out;have:=HK4.out;omega⟩,⟨RU (Kd.R_mono (Kd.R_far (p:=⟨gb307,1,none⟩) (Kd.R_types HO_3.out BK307.out (by decide)) (fun _ hk=>hk.2) (.int .i64 (wrap64 (x308001_4+((rd_T36 l0 x9_4).f1))))) (fun _ hk=>trivial))⟩,⟨RU (Kd.R_mono (Kd.R_far (p:=⟨gb307,1,none⟩) (Kd.R_mono HO_5.out (fun k_ hk=>(⟨hk,hk⟩:_∧k_≠gb307))) (fun _ hk=>hk.2) (.int .i64 (wrap64 (x308001_4+((rd_T36 l0 x9_4).f1))))) (fun _ hk=>hk.1))⟩,⟨by refine blk_put (cs:= #[.int .i64 ((rd_T36 l0 x6_2).f0),.int .i64 x308001_4,.int .i64 x6_2,.int .i64 x7_2,.int .i64 t306,.int .i64 (rd x3_1 x6_2)]) ?_ 1 _ rfl;exact BK307.out⟩,⟨TB⟩⟩
mutual
def q19_Pad.j0:Nat→List (S42)→Int→Int→Option ((List (S42)))
 | 0,_,_,_=>none
 | k+1,x0,x1,x2=>if x2=3 then (q19_Pad.j1 k x0 x1 x2 (wrap64 (x1 - (x0.length:Int)))) else (q19_Pad.j1 k x0 x1 x2 0)
def q19_Pad.j1:Nat→List (S42)→Int→Int→Int→Option ((List (S42)))
 | 0,_,_,_,_=>none
 | k+1,x0,x1,x2,x7=>if x2=4 then (q19_Pad.j2 k x0 x1 (wrap64 (Int.tdiv (wrap64 (x1 - (x0.length:Int))) 2))) else (q19_Pad.j2 k x0 x1 x7)
def q19_Pad.j2:Nat→List (S42)→Int→Int→Option ((List (S42)))
 | 0,_,_,_=>none
 | k+1,x0,x1,x7=>q19_Pad.l0 k x0 x1 x7 ([]:List (S42)) 0
def q19_Pad.l0:Nat→List (S42)→Int→Int→List (S42)→Int→Option ((List (S42)))
 | 0,_,_,_,_,_=>none
 | k+1,x0,x1,x7,x8,x9=>if x9 < x1 then (if x9≥x7 then (if (wrap64 (x9 - x7)) < (x0.length:Int) then (if 0≤(wrap64 (x9 - x7)) then (if x8.length < 2932031007402 then (q19_Pad.l0 k x0 x1 x7 (x8++[(⟨(rd_T42 x0 (wrap64 (x9 - x7))).f0,(rd_T42 x0 (wrap64 (x9 - x7))).f1,(rd_T42 x0 (wrap64 (x9 - x7))).f2,(rd_T42 x0 (wrap64 (x9 - x7))).f3,(rd_T42 x0 (wrap64 (x9 - x7))).f4,(rd_T42 x0 (wrap64 (x9 - x7))).f5⟩:S42)]) (wrap64 (x9+1))) else (none)) else (none)) else (if x8.length < 2932031007402 then (q19_Pad.l0 k x0 x1 x7 (x8++[(⟨2,0,0,0,0,0⟩:S42)]) (wrap64 (x9+1))) else (none))) else (if x8.length < 2932031007402 then (q19_Pad.l0 k x0 x1 x7 (x8++[(⟨2,0,0,0,0,0⟩:S42)]) (wrap64 (x9+1))) else (none))) else (some x8)
end
def q19_Pad.f (k:Nat) (l0:List (S42)) (a1:Int) (a2:Int):Option ((List (S42))):=if (l0.length:Int) > a1 then (if 0≤a1 then (if a1≤(l0.length:Int) then (q19_Pad.j0 k (l0.take (a1:Int).toNat) a1 a2) else (none)) else (none)) else (q19_Pad.j0 k l0 a1 a2)
theorem q19_Pad.mono_l: ∀ k,(∀ y0 y1 y2,LeO (q19_Pad.j0 k y0 y1 y2) (q19_Pad.j0 (k+1) y0 y1 y2))∧(∀ y0 y1 y2 y3,LeO (q19_Pad.j1 k y0 y1 y2 y3) (q19_Pad.j1 (k+1) y0 y1 y2 y3))∧(∀ y0 y1 y2,LeO (q19_Pad.j2 k y0 y1 y2) (q19_Pad.j2 (k+1) y0 y1 y2))∧(∀ y0 y1 y2 y3 y4,LeO (q19_Pad.l0 k y0 y1 y2 y3 y4) (q19_Pad.l0 (k+1) y0 y1 y2 y3 y4))
 | 0=>⟨fun _ _ _ r h=>by simp [q19_Pad.j0] at h,fun _ _ _ _ r h=>by simp [q19_Pad.j1] at h,fun _ _ _ r h=>by simp [q19_Pad.j2] at h,fun _ _ _ _ _ r h=>by simp [q19_Pad.l0] at h⟩
 | k+1=>by
  obtain ⟨ih0,ih1,ih2,ih3⟩:=q19_Pad.mono_l k
  refine ⟨?_,?_,?_,?_⟩
  ·
   intros
   unfold q19_Pad.j0
   exact TL
  ·
   intros
   unfold q19_Pad.j1
   exact TL
  ·
   intros
   unfold q19_Pad.j2
   exact TL
  ·
   intros
   unfold q19_Pad.l0
   exact TL
theorem q19_Pad.mono: ∀ a0 a1 a2 k,LeO (q19_Pad.f k a0 a1 a2) (q19_Pad.f (k+1) a0 a1 a2):=by
 intro a0 a1 a2 k
 obtain ⟨ih0,ih1,ih2,ih3⟩:=q19_Pad.mono_l k
 unfold q19_Pad.f
 repeat' first
   | (with_reducible exact ih0 _ _ _)
   | (with_reducible exact ih1 _ _ _ _)
   | (with_reducible exact ih2 _ _ _)
   | (with_reducible exact ih3 _ _ _ _ _)
   | (with_reducible exact LeO.refl _)
   | (with_reducible exact LeO.none _)
   | (with_reducible refine LeO.ite ?_ ?_)
   | (with_reducible refine LeO.bind ?_ (fun _=>?_))
set_option maxHeartbeats 8000000 in
theorem q19_Pad.calls (k:Nat) (P0_:Nat→Prop) (A0:Option Addr) (c0:Nat) (l0:List (S42)) (a1:Int) (a2:Int) (r:List (S42)) (w:World) (hs0:Kd.V k42 42 w w.heap.size (fun k_=>P0_ k_) (.slice A0 l0.length c0) l0) (h:q19_Pad.f k l0 a1 a2=some r) :
  Calls Try.prog 22 #[.slice A0 l0.length c0,.int .i64 a1,.int .i64 a2] w fun e w'=> ∃ v0_:Value,e= .returned (v0_)∧Kd.R k42 42 w' w.heap.size (fun k_=>(w.heap.size≤k_)) v0_ r∧Below w.heap.size w w':=by
 have hu42:=Try.underlying42
 have HO0:=Am (show Kd.V k42 42 w w.heap.size (fun k_=>(P0_ k_∨w.heap.size≤k_)) (.slice A0 l0.length c0) l0 from Kd.V_mono hs0 (fun k_ hk=> .inl hk))
 have HB:=Am (Below.refl w.heap.size w)
 have H:(if (l0.length:Int) > a1 then (if 0≤a1 then (if a1≤(l0.length:Int) then (q19_Pad.j0 k (l0.take (a1:Int).toNat) a1 a2) else (none)) else (none)) else (q19_Pad.j0 k l0 a1 a2))=some r:=h
 clear h
 have HC4:=Am H
 clear H
 go_enter Try.func22,Try.ntmps22
 try dsimp only [List.append]
 go_upto_if 13 with (fail)
 go_cut [0] (fun v0 wc=> ∃ (kq:Nat) (x0_3:List (S42)),Aside0 (q19_Pad.j0 kq x0_3 a1 a2=some r)∧Aside0 (kq≤k)∧Aside0 (Kd.V k42 42 wc w.heap.size (fun k_=>(P0_ k_∨w.heap.size≤k_)) v0 x0_3)∧Aside0 (Below w.heap.size w wc))
 case first =>
  have H:=HC4.out
  clear HC4
  by_cases c5:(l0.length:Int) > a1
  rotate_left
  ·
   rw [if_neg c5] at H
   have c5b0:decide (a1 < (l0.length:Int))=false:=decide_eq_false c5
   clear c5
   (first|rw [c5b0]|(simp only [i64_w,i32_w];rw [c5b0])|skip)
   have H':=Am H
   clear H
   go_wp2
   go_meet
   case rel=>exact ⟨_,(l0),H',⟨by first|omega|exact Nat.le_refl _⟩,⟨by (with_reducible repeat (first|apply Kd.V_alloc|apply Kd.V_drewN|apply Kd.V_drew));exact HO0.out⟩,⟨TB⟩⟩
  rw [if_pos c5] at H
  have c5b0:decide (a1 < (l0.length:Int))=true:=decide_eq_true c5
  clear c5
  (first|rw [c5b0]|(simp only [i64_w,i32_w];rw [c5b0])|skip)
  obtain ⟨c6,H⟩:=ifS H
  have c6b0:=eq_true c6
  have c6b1:decide (0≤a1)=true:=decide_eq_true c6
  clear c6
  obtain ⟨c7,H⟩:=ifS H
  have c7b0:=eq_true c7
  have c7b1:decide (a1≤(l0.length:Int))=true:=decide_eq_true c7
  clear c7
  obtain ⟨y312,hy312⟩: ∃ y_:List (S42),y_=(l0.take (a1:Int).toNat):=⟨_,rfl⟩
  replace H:(q19_Pad.j0 k y312 a1 a2)=some r:=by first|(rw [hy312];with_reducible exact H)|(have H2_:=(Option.bind_some _ _).symm.trans H;rw [hy312];with_reducible exact H2_)|(have H2_:=(Option.bind_some _ _).symm.trans H;with_reducible exact H2_)|with_reducible exact H|(rw [hy312];exact H)|exact H
  have Ny312:=Am hy312
  clear hy312
  have H':=Am H
  clear H
  have q8:(a1:Int)≤((l0.length:Int):Int):=tD
  obtain ⟨i08,hi08,_,hsz8,_⟩:=info_parts info42
  have hroom8:l0.length≤c0:=(Kd.V_reads' HO0.out).2.1
  have hC8:Kd.F k42 _ _ A0 l0.length l0:=(Kd.V_at (base:=w.heap.size) HO0.out).2.2
  have hcut8:=cut_to (P:=Try.prog) 27 42 .i64 Try.underlying27 hi08 A0 l0.length c0 a1 (tD) q8 hroom8
  have hr8:=Kd.F_take (m:=(a1:Int).toNat) hC8 (by omega)
  have hy8:y312.length=(a1:Int).toNat:=(by rw [Ny312.out,List.length_take];omega)
  rw [← Ny312.out] at hr8
  rw [← hy8] at hcut8
  have HO316:=Am (show Kd.V k42 42 _ w.heap.size _ (.slice A0 y312.length c0) y312 from Kd.V_mk (by omega) hr8)
  have HC316:=Am (show y312.length≤c0 from by omega)
  clear hr8 hC8 hroom8 hi08 hsz8
  have KY8:=Am hy8
  clear hy8
  replace q8:=eq_true q8
  go_wp2
  go_meet
  case rel=>exact ⟨_,(y312),H',⟨by first|omega|exact Nat.le_refl _⟩,⟨by (with_reducible repeat (first|apply Kd.V_alloc|apply Kd.V_drewN|apply Kd.V_drew));exact HO316.out⟩,⟨TB⟩⟩
 case rest =>
  clear HC4
  obtain ⟨kq,x0_3,HA,HJ3,HO_0,HB⟩:=hcut
  cases kq with
  | zero=>exact absurd HA.out (by simp [q19_Pad.j0])
  | succ kj3 =>
   have H:=HA.out
   clear HA
   simp only [q19_Pad.j0] at H
   have HC9:=Am H
   clear H
   go_upto_if 18 with (fail)
   go_cut [7] (fun v7 wc=> ∃ (kq:Nat) (x7_8:Int),v7= .int .i64 x7_8∧Aside0 (q19_Pad.j1 kq x0_3 a1 a2 x7_8=some r)∧Aside0 (kq≤kj3)∧Aside0 (Kd.V k42 42 wc w.heap.size (fun k_=>(P0_ k_∨w.heap.size≤k_)) u0 x0_3)∧Aside0 (Below w.heap.size w wc))
   case first =>
    have H:=HC9.out
    clear HC9
    by_cases c10:a2=3
    rotate_left
    ·
     rw [if_neg c10] at H
     have c10b0:(a2==3)=false:=beq_eq_false_iff_ne.mpr c10
     have c10b1:(a2 !=3)=true:=bne_iff_ne.mpr c10
     (first|rw [c10b0]|(simp only [i64_w,i32_w];rw [c10b0])|skip)
     have H':=Am H
     clear H
     go_wp2
     go_meet
     case rel=>exact ⟨_,(0),TS,H',⟨by have:=HJ3.out;first|omega|exact Nat.le_refl _⟩,⟨by (with_reducible repeat (first|apply Kd.V_alloc|apply Kd.V_drewN|apply Kd.V_drew));exact HO_0.out⟩,⟨TB⟩⟩
    rw [if_pos c10] at H
    have c10b0:(a2==3)=true:=beq_iff_eq.mpr c10
    have c10b1:(a2 !=3)=false:=bne_eq_false_iff_eq.mpr c10
    clear c10
    (first|rw [c10b0]|(simp only [i64_w,i32_w];rw [c10b0])|skip)
    have H':=Am H
    clear H
    obtain ⟨Ao11,co11,eo11⟩:=Kd.V_slice HO_0.out
    subst eo11
    go_wp2
    go_meet
    case rel=>exact ⟨_,(wrap64 (a1 - (x0_3.length:Int))),TS,H',⟨by have:=HJ3.out;first|omega|exact Nat.le_refl _⟩,⟨by (with_reducible repeat (first|apply Kd.V_alloc|apply Kd.V_drewN|apply Kd.V_drew));exact HO_0.out⟩,⟨TB⟩⟩
   case rest =>
    clear HC9
    obtain ⟨kq,x7_8,rfl,HA,HJ8,HO_0,HB⟩:=hcut
    cases kq with
    | zero=>exact absurd HA.out (by simp [q19_Pad.j1])
    | succ kj8 =>
     have H:=HA.out
     clear HA
     simp only [q19_Pad.j1] at H
     have HC12:=Am H
     clear H
     go_upto_if 24 with (fail)
     go_cut [7] (fun v7 wc=> ∃ (kq:Nat) (x7_11:Int),v7= .int .i64 x7_11∧Aside0 (q19_Pad.j2 kq x0_3 a1 x7_11=some r)∧Aside0 (kq≤kj8)∧Aside0 (Kd.V k42 42 wc w.heap.size (fun k_=>(P0_ k_∨w.heap.size≤k_)) u0 x0_3)∧Aside0 (Below w.heap.size w wc))
     case first =>
      have H:=HC12.out
      clear HC12
      by_cases c13:a2=4
      rotate_left
      ·
       rw [if_neg c13] at H
       have c13b0:(a2==4)=false:=beq_eq_false_iff_ne.mpr c13
       have c13b1:(a2 !=4)=true:=bne_iff_ne.mpr c13
       (first|rw [c13b0]|(simp only [i64_w,i32_w];rw [c13b0])|skip)
       have H':=Am H
       clear H
       go_wp2
       go_meet
       case rel=>exact ⟨_,(x7_8),TS,H',⟨by have:=HJ3.out;have:=HJ8.out;first|omega|exact Nat.le_refl _⟩,⟨by (with_reducible repeat (first|apply Kd.V_alloc|apply Kd.V_drewN|apply Kd.V_drew));exact HO_0.out⟩,⟨TB⟩⟩
      rw [if_pos c13] at H
      have c13b0:(a2==4)=true:=beq_iff_eq.mpr c13
      have c13b1:(a2 !=4)=false:=bne_eq_false_iff_eq.mpr c13
      clear c13
      (first|rw [c13b0]|(simp only [i64_w,i32_w];rw [c13b0])|skip)
      have H':=Am H
      clear H
      obtain ⟨Ao14,co14,eo14⟩:=Kd.V_slice HO_0.out
      subst eo14
      go_wp2
      go_meet
      case rel=>exact ⟨_,(wrap64 (Int.tdiv (wrap64 (a1 - (x0_3.length:Int))) 2)),TS,H',⟨by have:=HJ3.out;have:=HJ8.out;first|omega|exact Nat.le_refl _⟩,⟨by (with_reducible repeat (first|apply Kd.V_alloc|apply Kd.V_drewN|apply Kd.V_drew));exact HO_0.out⟩,⟨TB⟩⟩
     case rest =>
      clear HC12
      obtain ⟨kq,x7_11,rfl,HA,HJ11,HO_0,HB⟩:=hcut
      cases kq with
      | zero=>exact absurd HA.out (by simp [q19_Pad.j2])
      | succ kj11 =>
       have H:=HA.out
       clear HA
       simp only [q19_Pad.j2] at H
       have H':=Am H
       clear H
       go_wp2
       go_loopg [8,9] kj11 (fun kq v8 v9 w'=> ∃ (x8_4:List (S42)) (x9_4:Int),v9= .int .i64 x9_4∧Aside0 (q19_Pad.l0 kq x0_3 a1 x7_11 x8_4 x9_4=some r)∧Aside0 (kq≤kj11)∧Aside0 (Kd.V k42 42 w' w.heap.size (fun k_=>(P0_ k_∨w.heap.size≤k_)∧some k_≠(v8:Value).ownBlock) u0 x0_3)∧Aside0 (Kd.R k42 42 w' w.heap.size (fun k_=>(w.heap.size≤k_)) v8 x8_4)∧Aside0 (Below w.heap.size w w'))
       case atStart=>exact ⟨(([]:List (S42))),(0),TS,H',⟨Nat.le_refl _⟩,⟨by (with_reducible repeat (first|apply Kd.V_alloc|apply Kd.V_drewN|apply Kd.V_drew));exact Kd.V_mono HO_0.out (fun _ hk=>⟨hk,(by simp [Value.ownBlock])⟩)⟩,⟨by first|exact Kd.R_nil _ _ _ _ _|exact Kd.N_nil _ _ _ _ _|exact Kd.V_nil _ _ _ _ _|exact Kd.Q_nil _ _ _ _ _|exact Kd.S_nil _ _ _ _ _⟩,⟨TB⟩⟩
       case round =>
        clear H'
        obtain ⟨x8_4,x9_4,rfl,HA,HK4,HO_0,HO_8,HB⟩:=hrel
        cases gk with
        | zero=>exact absurd HA.out (by simp [q19_Pad.l0])
        | succ k4 =>
         have H:=HA.out
         clear HA
         simp only [q19_Pad.l0] at H
         by_cases c15:x9_4 < a1
         rotate_left
         ·
          rw [if_neg c15] at H
          have c15b0:decide (x9_4 < a1)=false:=decide_eq_false c15
          clear c15
          obtain rfl:=Option.some.inj H
          go_wp2
          go_ret
          exact ⟨_,TE,RU HO_8.out,TB⟩
         rw [if_pos c15] at H
         have c15b0:decide (x9_4 < a1)=true:=decide_eq_true c15
         clear c15
         by_cases c16:x9_4≥x7_11
         rotate_left
         ·
          rw [if_neg c16] at H
          have c16b0:decide (x7_11≤x9_4)=false:=decide_eq_false c16
          clear c16
          obtain ⟨c26,H⟩:=ifS H
          have LMc26:=Am c26
          clear c26
          obtain ⟨y324,hy324⟩: ∃ y_:List (S42),y_=(x8_4++[(⟨2,0,0,0,0,0⟩:S42)]):=⟨_,rfl⟩
          replace H:(q19_Pad.l0 k4 x0_3 a1 x7_11 y324 (wrap64 (x9_4+1)))=some r:=by first|(rw [hy324];with_reducible exact H)|(have H2_:=(Option.bind_some _ _).symm.trans H;rw [hy324];with_reducible exact H2_)|(have H2_:=(Option.bind_some _ _).symm.trans H;with_reducible exact H2_)|with_reducible exact H|(rw [hy324];exact H)|exact H
          have Ny324:=Am hy324
          clear hy324
          have H':=Am H
          clear H
          go_wp2_with (first|((with_reducible refine gate_builtin (b:= .append) (xs:= #[.tmp 55,.tmp 57]) rfl ?_);(try (refine gate_guard (by rfl) ?_;dsimp only));at_builtin;refine Kd.R_append k42 (w0:=w) w.heap.size rfl (.tmp 55) (.tmp 57) 27 42 (.agg #[(.int .i64 0),(.int .i64 0),(.int .i64 0),(.int .i64 0),(.int .i64 0),(.int .i64 0)]) 48 rfl Try.underlying27 info42 rfl (by decide) (by omega) u8 x8_4 (⟨2,0,0,0,0,0⟩:S42) [.int .i64 2,.int .i64 0,.int .i64 0,.int .i64 0,.int .i64 0,.int .i64 0] (fun k_=>(w.heap.size≤k_)) (fun _=>False) rfl rfl ?aP (fun _ hk=>hk.elim) ?aF ?aO ?aB ?aS ?aL ?_;(case aP=>exact k42_mkM _ _ _ (⟨2,0,0,0,0,0⟩:S42));(case aB=>exact TB);(case aF=>exact (fun k_ hk=>(Nat.le_trans (below_size TB) hk)));(case aO=>exact (RU HO_8.out));(case aS=>exact (below_size TB));(case aL=>have:=LMc26.out;omega);intro v325 w27 ho hb hg hat;rw [← Ny324.out] at ho;replace HO_0:=Am (Kd.V_afterv (ok:=(fun k_=>(P0_ k_∨w.heap.size≤k_))) (by (with_reducible repeat (first|apply Kd.V_alloc|apply Kd.V_drewN|apply Kd.V_drew));exact HO_0.out) hg hat);have HO326:=Am (ho);replace HB:=Am (hb);clear HO_8;clear ho hb hg hat))
          go_roundg k4
          case measure=>have:=HJ3.out;have:=HJ8.out;have:=HJ11.out;have:=HK4.out;omega
          case rel=>exact ⟨(y324),(wrap64 (x9_4+1)),TS,H',⟨by have:=HJ3.out;have:=HJ8.out;have:=HJ11.out;have:=HK4.out;omega⟩,⟨by (with_reducible repeat (first|apply Kd.V_alloc|apply Kd.V_drewN|apply Kd.V_drew));exact HO_0.out⟩,⟨RU HO326.out⟩,⟨TB⟩⟩
         rw [if_pos c16] at H
         have c16b0:decide (x7_11≤x9_4)=true:=decide_eq_true c16
         clear c16
         by_cases c17:(wrap64 (x9_4 - x7_11)) < (x0_3.length:Int)
         rotate_left
         ·
          rw [if_neg c17] at H
          have c17b0:decide ((wrap64 (x9_4 - x7_11)) < (x0_3.length:Int))=false:=decide_eq_false c17
          clear c17
          obtain ⟨c23,H⟩:=ifS H
          have LMc23:=Am c23
          clear c23
          obtain ⟨y321,hy321⟩: ∃ y_:List (S42),y_=(x8_4++[(⟨2,0,0,0,0,0⟩:S42)]):=⟨_,rfl⟩
          replace H:(q19_Pad.l0 k4 x0_3 a1 x7_11 y321 (wrap64 (x9_4+1)))=some r:=by first|(rw [hy321];with_reducible exact H)|(have H2_:=(Option.bind_some _ _).symm.trans H;rw [hy321];with_reducible exact H2_)|(have H2_:=(Option.bind_some _ _).symm.trans H;with_reducible exact H2_)|with_reducible exact H|(rw [hy321];exact H)|exact H
          have Ny321:=Am hy321
          clear hy321
          have H':=Am H
          clear H
          obtain ⟨Ao24,co24,eo24⟩:=Kd.V_slice HO_0.out
          subst eo24
          go_wp2_with (first|((with_reducible refine gate_builtin (b:= .append) (xs:= #[.tmp 55,.tmp 57]) rfl ?_);(try (refine gate_guard (by rfl) ?_;dsimp only));at_builtin;refine Kd.R_append k42 (w0:=w) w.heap.size rfl (.tmp 55) (.tmp 57) 27 42 (.agg #[(.int .i64 0),(.int .i64 0),(.int .i64 0),(.int .i64 0),(.int .i64 0),(.int .i64 0)]) 48 rfl Try.underlying27 info42 rfl (by decide) (by omega) u8 x8_4 (⟨2,0,0,0,0,0⟩:S42) [.int .i64 2,.int .i64 0,.int .i64 0,.int .i64 0,.int .i64 0,.int .i64 0] (fun k_=>(w.heap.size≤k_)) (fun _=>False) rfl rfl ?aP (fun _ hk=>hk.elim) ?aF ?aO ?aB ?aS ?aL ?_;(case aP=>exact k42_mkM _ _ _ (⟨2,0,0,0,0,0⟩:S42));(case aB=>exact TB);(case aF=>exact (fun k_ hk=>(Nat.le_trans (below_size TB) hk)));(case aO=>exact (RU HO_8.out));(case aS=>exact (below_size TB));(case aL=>have:=LMc23.out;omega);intro v322 w25 ho hb hg hat;rw [← Ny321.out] at ho;replace HO_0:=Am (Kd.V_afterv (ok:=(fun k_=>(P0_ k_∨w.heap.size≤k_))) (by (with_reducible repeat (first|apply Kd.V_alloc|apply Kd.V_drewN|apply Kd.V_drew));exact HO_0.out) hg hat);have HO323:=Am (ho);replace HB:=Am (hb);clear HO_8;clear ho hb hg hat))
          go_roundg k4
          case measure=>have:=HJ3.out;have:=HJ8.out;have:=HJ11.out;have:=HK4.out;omega
          case rel=>exact ⟨(y321),(wrap64 (x9_4+1)),TS,H',⟨by have:=HJ3.out;have:=HJ8.out;have:=HJ11.out;have:=HK4.out;omega⟩,⟨by (with_reducible repeat (first|apply Kd.V_alloc|apply Kd.V_drewN|apply Kd.V_drew));exact HO_0.out⟩,⟨RU HO323.out⟩,⟨TB⟩⟩
         rw [if_pos c17] at H
         have c17b0:decide ((wrap64 (x9_4 - x7_11)) < (x0_3.length:Int))=true:=decide_eq_true c17
         clear c17
         obtain ⟨ji18,hji18⟩: ∃ j_:Int,(wrap64 (x9_4 - x7_11))=j_:=⟨_,rfl⟩
         replace H:(if 0≤(ji18) then (if x8_4.length < 2932031007402 then (q19_Pad.l0 k4 x0_3 a1 x7_11 (x8_4++[(⟨(rd_T42 x0_3 (ji18)).f0,(rd_T42 x0_3 (ji18)).f1,(rd_T42 x0_3 (ji18)).f2,(rd_T42 x0_3 (ji18)).f3,(rd_T42 x0_3 (ji18)).f4,(rd_T42 x0_3 (ji18)).f5⟩:S42)]) (wrap64 (x9_4+1))) else (none)) else (none))=some r:=by first|(rw [hji18] at H;exact H)|(simp only [hji18] at H ⊢;exact H)
         (try rw [hji18] at c17b0)
         have hji18w:(IntKind.i64.wrap (x9_4 - x7_11))=ji18:=(i64_w _).trans hji18
         obtain ⟨c19,H⟩:=ifS H
         have c19b0:decide (0≤(ji18))=true:=decide_eq_true c19
         clear c19
         obtain ⟨c20,H⟩:=ifS H
         have LMc20:=Am c20
         clear c20
         obtain ⟨y318,hy318⟩: ∃ y_:List (S42),y_=(x8_4++[(⟨(rd_T42 x0_3 (ji18)).f0,(rd_T42 x0_3 (ji18)).f1,(rd_T42 x0_3 (ji18)).f2,(rd_T42 x0_3 (ji18)).f3,(rd_T42 x0_3 (ji18)).f4,(rd_T42 x0_3 (ji18)).f5⟩:S42)]):=⟨_,rfl⟩
         replace H:(q19_Pad.l0 k4 x0_3 a1 x7_11 y318 (wrap64 (x9_4+1)))=some r:=by first|(rw [hy318];with_reducible exact H)|(have H2_:=(Option.bind_some _ _).symm.trans H;rw [hy318];with_reducible exact H2_)|(have H2_:=(Option.bind_some _ _).symm.trans H;with_reducible exact H2_)|with_reducible exact H|(rw [hy318];exact H)|exact H
         have Ny318:=Am hy318
         clear hy318
         have H':=Am H
         clear H
         obtain ⟨Ao21,co21,eo21⟩:=Kd.V_slice HO_0.out
         subst eo21
         have p317:0≤((ji18):Int):=tD
         have q317:(ji18) < (x0_3.length:Int):=tD
         obtain ⟨ad317,e317,hx317_0,hx317_1,hx317_2,hx317_3,hx317_4,hx317_5⟩:=at_T42 (Kd.V_reads' HO_0.out).2.2 (ji18) p317 q317
         cases e317
         replace p317:=eq_true p317
         replace q317:=eq_true q317
         go_wp2_with (first|((with_reducible refine gate_builtin (b:= .append) (xs:= #[.tmp 46,.tmp 53]) rfl ?_);(try (refine gate_guard (by rfl) ?_;dsimp only));at_builtin;refine Kd.R_append k42 (w0:=w) w.heap.size rfl (.tmp 46) (.tmp 53) 27 42 (.agg #[(.int .i64 0),(.int .i64 0),(.int .i64 0),(.int .i64 0),(.int .i64 0),(.int .i64 0)]) 48 rfl Try.underlying27 info42 rfl (by decide) (by omega) u8 x8_4 (⟨(rd_T42 x0_3 (ji18)).f0,(rd_T42 x0_3 (ji18)).f1,(rd_T42 x0_3 (ji18)).f2,(rd_T42 x0_3 (ji18)).f3,(rd_T42 x0_3 (ji18)).f4,(rd_T42 x0_3 (ji18)).f5⟩:S42) [.int .i64 ((rd_T42 x0_3 (ji18)).f0),.int .i64 ((rd_T42 x0_3 (ji18)).f1),.int .i64 ((rd_T42 x0_3 (ji18)).f2),.int .i64 ((rd_T42 x0_3 (ji18)).f3),.int .i64 ((rd_T42 x0_3 (ji18)).f4),.int .i64 ((rd_T42 x0_3 (ji18)).f5)] (fun k_=>(w.heap.size≤k_)) (fun _=>False) rfl rfl ?aP (fun _ hk=>hk.elim) ?aF ?aO ?aB ?aS ?aL ?_;(case aP=>exact k42_mkM _ _ _ (⟨(rd_T42 x0_3 (ji18)).f0,(rd_T42 x0_3 (ji18)).f1,(rd_T42 x0_3 (ji18)).f2,(rd_T42 x0_3 (ji18)).f3,(rd_T42 x0_3 (ji18)).f4,(rd_T42 x0_3 (ji18)).f5⟩:S42));(case aB=>exact TB);(case aF=>exact (fun k_ hk=>(Nat.le_trans (below_size TB) hk)));(case aO=>exact (RU HO_8.out));(case aS=>exact (below_size TB));(case aL=>have:=LMc20.out;omega);intro v319 w22 ho hb hg hat;rw [← Ny318.out] at ho;replace HO_0:=Am (Kd.V_afterv (ok:=(fun k_=>(P0_ k_∨w.heap.size≤k_))) (by (with_reducible repeat (first|apply Kd.V_alloc|apply Kd.V_drewN|apply Kd.V_drew));exact HO_0.out) hg hat);have HO320:=Am (ho);replace HB:=Am (hb);clear HO_8;clear ho hb hg hat))
         go_roundg k4
         case measure=>have:=HJ3.out;have:=HJ8.out;have:=HJ11.out;have:=HK4.out;omega
         case rel=>exact ⟨(y318),(wrap64 (x9_4+1)),TS,H',⟨by have:=HJ3.out;have:=HJ8.out;have:=HJ11.out;have:=HK4.out;omega⟩,⟨by (with_reducible repeat (first|apply Kd.V_alloc|apply Kd.V_drewN|apply Kd.V_drew));exact HO_0.out⟩,⟨RU HO320.out⟩,⟨TB⟩⟩
def q16_Cut.f (a0:Int):Option (Int):=some (mn (mx a0 0) 126)
set_option maxHeartbeats 8000000 in
theorem q16_Cut.calls (a0:Int) (r:Int) (w:World) (h:q16_Cut.f a0=some r) :
  Calls Try.prog 61 #[.int .i64 a0] w fun e w'=>e= .returned (.int .i64 r)∧Below w.heap.size w w':=by
 have HB:=Am (Below.refl w.heap.size w)
 have H:(some (mn (mx a0 0) 126))=some r:=h
 clear h
 obtain ⟨ji2,hji2⟩: ∃ j_:Int,(mx a0 0)=j_:=⟨_,rfl⟩
 replace H:(some (mn (ji2) 126))=some r:=by first|(rw [hji2] at H;exact H)|(simp only [hji2] at H ⊢;exact H)
 (try (have hji2l:0≤ji2:=by (rw [← hji2];unfold mx;(repeat' split) <;> omega)))
 (try (have hji2m:0≤ji2:=by omega))
 have hji2_:(if a0 < 0 then 0 else a0)=ji2:=hji2
 obtain ⟨ji3,hji3⟩: ∃ j_:Int,(mn (ji2) 126)=j_:=⟨_,rfl⟩
 replace H:(some ji3)=some r:=by first|(rw [hji3] at H;exact H)|(simp only [hji3] at H ⊢;exact H)
 have hji3_:(if 126 < (ji2) then 126 else (ji2))=ji3:=hji3
 obtain rfl:=Option.some.inj H
 go_enter Try.func61,Try.ntmps61
 go_wp2
 go_ret
 exact ⟨by first|rfl|(simp [errW_none,errW_some] <;> rfl)|(simp only [← hji2,← hji3];first|rfl|(simp [errW_none,errW_some] <;> rfl))|(simp [*,errW_none,errW_some] <;> rfl),TB⟩
mutual
def q16_Order.l0:Nat→List Int→List Int→Int→Option (List Int)
 | 0,_,_,_=>none
 | k+1,x0,x3,x4=>if x4 < (x0.length:Int) then (if x3.length < 17592186044416 then (q16_Order.l0 k x0 (x3++[x4]) (wrap64 (x4+1))) else (none)) else (q16_Order.l1 k x0 x3 126)
def q16_Order.l1:Nat→List Int→List Int→Int→Option (List Int)
 | 0,_,_,_=>none
 | k+1,x0,x3,x5=>if x5≥1 then (q16_Order.l2 k x0 x3 x5 0 0) else (some x3)
def q16_Order.l2:Nat→List Int→List Int→Int→Int→Int→Option (List Int)
 | 0,_,_,_,_,_=>none
 | k+1,x0,x3,x5,x6,x7=>if x7≤(x3.length:Int) then (if x7 < (x3.length:Int) then (if 0≤x7 then (if 0≤(rd x3 x7) then (if (rd x3 x7) < (x0.length:Int) then ((q16_Cut.f (rd x0 (rd x3 x7))).bind fun t332=>(q16_Order.j3 k x0 x3 x5 x6 x7 (decide (t332≥x5)))) else (none)) else (none)) else (none)) else (q16_Order.j3 k x0 x3 x5 x6 x7 false)) else (q16_Order.l1 k x0 x3 (wrap64 (x5 - 1)))
def q16_Order.j3:Nat→List Int→List Int→Int→Int→Int→Bool→Option (List Int)
 | 0,_,_,_,_,_,_=>none
 | k+1,x0,x3,x5,x6,x7,x45=>if x45=true then (q16_Order.l2 k x0 x3 x5 x6 (wrap64 (x7+1))) else (q16_Order.l3 k x0 x3 x5 x7 x6 (wrap64 (x7 - 1)))
def q16_Order.l3:Nat→List Int→List Int→Int→Int→Int→Int→Option (List Int)
 | 0,_,_,_,_,_,_=>none
 | k+1,x0,x3,x5,x7,x8,x9=>if x8 < x9 then (if 0≤x9 then (if x9 < (x3.length:Int) then (if 0≤x8 then (if x8 < (x3.length:Int) then (q16_Order.l3 k x0 ((x3.set (x8:Int).toNat (rd x3 x9)).set (x9:Int).toNat (rd x3 x8)) x5 x7 (wrap64 (x8+1)) (wrap64 (x9 - 1))) else (none)) else (none)) else (none)) else (none)) else (q16_Order.l2 k x0 x3 x5 (wrap64 (x7+1)) (wrap64 (x7+1)))
end
def q16_Order.f (k:Nat) (l0:List Int):Option (List Int):=q16_Order.l0 k l0 ([]:List Int) 0
theorem q16_Order.mono_l: ∀ k,(∀ y0 y1 y2,LeO (q16_Order.l0 k y0 y1 y2) (q16_Order.l0 (k+1) y0 y1 y2))∧(∀ y0 y1 y2,LeO (q16_Order.l1 k y0 y1 y2) (q16_Order.l1 (k+1) y0 y1 y2))∧(∀ y0 y1 y2 y3 y4,LeO (q16_Order.l2 k y0 y1 y2 y3 y4) (q16_Order.l2 (k+1) y0 y1 y2 y3 y4))∧(∀ y0 y1 y2 y3 y4 y5,LeO (q16_Order.j3 k y0 y1 y2 y3 y4 y5) (q16_Order.j3 (k+1) y0 y1 y2 y3 y4 y5))∧(∀ y0 y1 y2 y3 y4 y5,LeO (q16_Order.l3 k y0 y1 y2 y3 y4 y5) (q16_Order.l3 (k+1) y0 y1 y2 y3 y4 y5))
 | 0=>⟨fun _ _ _ r h=>by simp [q16_Order.l0] at h,fun _ _ _ r h=>by simp [q16_Order.l1] at h,fun _ _ _ _ _ r h=>by simp [q16_Order.l2] at h,fun _ _ _ _ _ _ r h=>by simp [q16_Order.j3] at h,fun _ _ _ _ _ _ r h=>by simp [q16_Order.l3] at h⟩
 | k+1=>by
  obtain ⟨ih0,ih1,ih2,ih3,ih4⟩:=q16_Order.mono_l k
  refine ⟨?_,?_,?_,?_,?_⟩
  ·
   intros
   unfold q16_Order.l0
   exact TL
  ·
   intros
   unfold q16_Order.l1
   exact TL
  ·
   intros
   unfold q16_Order.l2
   exact TL
  ·
   intros
   unfold q16_Order.j3
   exact TL
  ·
   intros
   unfold q16_Order.l3
   exact TL
theorem q16_Order.mono: ∀ a0 k,LeO (q16_Order.f k a0) (q16_Order.f (k+1) a0):=by
 intro a0 k
 obtain ⟨ih0,ih1,ih2,ih3,ih4⟩:=q16_Order.mono_l k
 unfold q16_Order.f
 repeat' first
   | (with_reducible exact ih0 _ _ _)
   | (with_reducible exact ih1 _ _ _)
   | (with_reducible exact ih2 _ _ _ _ _)
   | (with_reducible exact ih3 _ _ _ _ _ _)
   | (with_reducible exact ih4 _ _ _ _ _ _)
   | (with_reducible exact LeO.refl _)
   | (with_reducible exact LeO.none _)
   | (with_reducible refine LeO.ite ?_ ?_)
   | (with_reducible refine LeO.bind ?_ (fun _=>?_))
def q16_Order.T17:Bool × List (List Nat × List Nat):=(true,[([],[]),([],[]),([],[]),([],[]),([],[]),([],[]),([4,5],[4,5]),([6],[6]),([],[]),([],[]),([8,9],[8,9]),([10],[10]),([0,1,0,1,4,5,6,7,11],[0,1]),([12,7,0,1,4,5,6,7,11],[7,12]),([2,3,0,1,2,3,4,5,6,7,8,9,10,11,12,13],[2,3]),([14,11,13,0,1,2,3,4,5,6,7,8,9,10,11,12,13],[11,14])])
def q16_Order.B17:List Nat:=[0,0,0,0,0,0,48,112,0,0,768,1792,4083,8179,16383,32767]
theorem q16_Order.tab17:rtab .any (opsOf Try.f40 17)=q16_Order.T17:=by kernel_rfl
theorem q16_Order.bits17:waitsOk q16_Order.T17.2 q16_Order.B17=true:=by kernel_rfl
set_option maxHeartbeats 8000000 in
theorem q16_Order.calls (k:Nat) (A0:Option Addr) (c0:Nat) (l0:List Int) (r:List Int) (w:World) (hr0:Kd.C (Kd.int .i64) w A0 l0.length l0) (hc0:l0.length≤c0) (h:q16_Order.f k l0=some r) :
  Calls Try.prog 40 #[.slice A0 l0.length c0] w fun e w'=> ∃ v0_:Value,e= .returned (v0_)∧Kd.R (Kd.int .i64) 3 w' w.heap.size (fun _=>True) v0_ r∧Below w.heap.size w w':=by
 have HR0:=Am hr0
 have HC0:=Am hc0
 clear hr0 hc0
 have HB:=Am (Below.refl w.heap.size w)
 have H:(q16_Order.l0 k l0 ([]:List Int) 0)=some r:=h
 clear h
 have H':=Am H
 clear H
 go_enter Try.func40,Try.ntmps40
 try dsimp only [List.append]
 go_wp2
 go_loopg [3,4] k (fun kq v3 v4 w'=> ∃ (x3_1:List Int) (x4_1:Int),v4= .int .i64 x4_1∧Aside0 (q16_Order.l0 kq l0 x3_1 x4_1=some r)∧Aside0 (kq≤k)∧Aside0 (Kd.R (Kd.int .i64) 3 w' w.heap.size (fun _=>True) v3 x3_1)∧Aside0 (Below w.heap.size w w'))
 case atStart=>exact ⟨(([]:List Int)),(0),TS,H',⟨Nat.le_refl _⟩,⟨by first|exact Kd.R_nil _ _ _ _ _|exact Kd.N_nil _ _ _ _ _|exact Kd.V_nil _ _ _ _ _|exact Kd.Q_nil _ _ _ _ _|exact Kd.S_nil _ _ _ _ _⟩,⟨TB⟩⟩
 case round =>
  clear H'
  obtain ⟨x3_1,x4_1,rfl,HA,HK1,HO_3,HB⟩:=hrel
  cases gk with
  | zero=>exact absurd HA.out (by simp [q16_Order.l0])
  | succ k1 =>
   have H:=HA.out
   clear HA
   simp only [q16_Order.l0] at H
   by_cases c2:x4_1 < (l0.length:Int)
   ·
    rw [if_pos c2] at H
    have c2b0:decide (x4_1 < (l0.length:Int))=true:=decide_eq_true c2
    clear c2
    obtain ⟨c3,H⟩:=ifS H
    have LMc3:=Am c3
    clear c3
    obtain ⟨y327,hy327⟩: ∃ y_:List Int,y_=(x3_1++[x4_1]):=⟨_,rfl⟩
    replace H:(q16_Order.l0 k1 l0 y327 (wrap64 (x4_1+1)))=some r:=by first|(rw [hy327];with_reducible exact H)|(have H2_:=(Option.bind_some _ _).symm.trans H;rw [hy327];with_reducible exact H2_)|(have H2_:=(Option.bind_some _ _).symm.trans H;with_reducible exact H2_)|with_reducible exact H|(rw [hy327];exact H)|exact H
    have Ny327:=Am hy327
    clear hy327
    have H':=Am H
    clear H
    go_wp2_with (first|((with_reducible refine gate_builtin (b:= .append) (xs:= #[.tmp 16,.tmp 18]) rfl ?_);at_builtin;refine Kd.R_append (Kd.int .i64) (w0:=w) w.heap.size rfl (.tmp 16) (.tmp 18) 23 3 (.int .i64 0) 8 rfl Try.underlying23 info3 rfl (by decide) (by omega) u3 x3_1 x4_1 [.int .i64 x4_1] (fun _=>True) (fun _=>False) rfl rfl ?aP (fun _ hk=>hk.elim) ?aF ?aO ?aB ?aS ?aL ?_;(case aP=>exact rfl);(case aB=>exact TB);(case aF=>exact (fun _ _=>trivial));(case aO=>exact (RU HO_3.out));(case aS=>exact (below_size TB));(case aL=>have:=LMc3.out;omega);intro v328 w4 ho hb hg hat;rw [← Ny327.out] at ho;have HO329:=Am (ho);replace HB:=Am (hb);clear HO_3;clear ho hb hg hat))
    go_roundg k1
    case measure=>have:=HK1.out;omega
    case rel=>exact ⟨(y327),(wrap64 (x4_1+1)),TS,H',⟨by have:=HK1.out;omega⟩,⟨RU HO329.out⟩,⟨TB⟩⟩
   rw [if_neg c2] at H
   have c2b0:decide (x4_1 < (l0.length:Int))=false:=decide_eq_false c2
   clear c2
   have H':=Am H
   clear H
   go_wp2
   go_loopg [5] k1 (fun kq v5 w'=> ∃ (x3_2:List Int) (x5_2:Int),v5= .int .i64 x5_2∧Aside0 (q16_Order.l1 kq l0 x3_2 x5_2=some r)∧Aside0 (kq≤k1)∧Aside0 (Kd.R (Kd.int .i64) 3 w' w.heap.size (fun _=>True) u3 x3_2)∧Aside0 (Below w.heap.size w w'))
   case atStart=>exact ⟨(x3_1),(126),TS,H',⟨Nat.le_refl _⟩,⟨RU HO_3.out⟩,⟨TB⟩⟩
   case round =>
    clear H'
    obtain ⟨x3_2,x5_2,rfl,HA,HK2,HO_3,HB⟩:=hrel
    cases gk with
    | zero=>exact absurd HA.out (by simp [q16_Order.l1])
    | succ k2 =>
     have H:=HA.out
     clear HA
     simp only [q16_Order.l1] at H
     by_cases c5:x5_2≥1
     rotate_left
     ·
      rw [if_neg c5] at H
      have c5b0:decide (1≤x5_2)=false:=decide_eq_false c5
      clear c5
      obtain rfl:=Option.some.inj H
      go_wp2
      go_ret
      exact ⟨_,TE,RU HO_3.out,TB⟩
     rw [if_pos c5] at H
     have c5b0:decide (1≤x5_2)=true:=decide_eq_true c5
     clear c5
     have H':=Am H
     clear H
     go_wp2
     go_loopg [6,7] k2 (fun kq v6 v7 w'=> ∃ (x3_3:List Int) (x6_3:Int) (x7_3:Int),v6= .int .i64 x6_3∧v7= .int .i64 x7_3∧Aside0 (q16_Order.l2 kq l0 x3_3 x5_2 x6_3 x7_3=some r)∧Aside0 (kq≤k2)∧Aside0 (Kd.R (Kd.int .i64) 3 w' w.heap.size (fun _=>True) u3 x3_3)∧Aside0 (Below w.heap.size w w'))
     case atStart=>exact ⟨(x3_2),(0),(0),TS,TS,H',⟨Nat.le_refl _⟩,⟨RU HO_3.out⟩,⟨TB⟩⟩
     case round =>
      clear H'
      obtain ⟨x3_3,x6_3,x7_3,rfl,rfl,HA,HK3,HO_3,HB⟩:=hrel
      cases gk with
      | zero=>exact absurd HA.out (by simp [q16_Order.l2])
      | succ k3 =>
       have H:=HA.out
       clear HA
       simp only [q16_Order.l2] at H
       by_cases c6:x7_3≤(x3_3.length:Int)
       rotate_left
       ·
        rw [if_neg c6] at H
        have c6b0:decide (x7_3≤(x3_3.length:Int))=false:=decide_eq_false c6
        clear c6
        have H':=Am H
        clear H
        obtain ⟨Ao26,co26,eo26⟩:=Kd.R_slice HO_3.out
        subst eo26
        go_wp2
        go_roundg k3
        case measure=>have:=HK1.out;have:=HK2.out;have:=HK3.out;omega
        case rel=>exact ⟨(x3_3),(wrap64 (x5_2 - 1)),TS,H',⟨by have:=HK1.out;have:=HK2.out;have:=HK3.out;omega⟩,⟨RU HO_3.out⟩,⟨TB⟩⟩
       rw [if_pos c6] at H
       have c6b0:decide (x7_3≤(x3_3.length:Int))=true:=decide_eq_true c6
       clear c6
       have HC7:=Am H
       clear H
       obtain ⟨Ao8,co8,eo8⟩:=Kd.R_slice HO_3.out
       subst eo8
       go_upto_region 13 with (fail)
       go_cut [45] (fun v45 wc=> ∃ (kq:Nat) (x45_6:Bool),v45= .bool x45_6∧Aside0 (q16_Order.j3 kq l0 x3_3 x5_2 x6_3 x7_3 x45_6=some r)∧Aside0 (kq≤k3)∧Aside0 (Kd.R (Kd.int .i64) 3 wc w.heap.size (fun _=>True) (.slice Ao8 x3_3.length co8) x3_3)∧Aside0 (Below w.heap.size w wc))
       case first =>
        have H:=HC7.out
        clear HC7
        by_cases c9:x7_3 < (x3_3.length:Int)
        rotate_left
        ·
         rw [if_neg c9] at H
         have c9b0:decide (x7_3 < (x3_3.length:Int))=false:=decide_eq_false c9
         clear c9
         (first|rw [c9b0]|(simp only [i64_w,i32_w];rw [c9b0])|skip)
         have H':=Am H
         clear H
         go_wp2
         go_meet
         case rel=>exact ⟨_,(false),TS,H',⟨by have:=HK1.out;have:=HK2.out;have:=HK3.out;first|omega|exact Nat.le_refl _⟩,⟨RU HO_3.out⟩,⟨TB⟩⟩
        rw [if_pos c9] at H
        have c9b0:decide (x7_3 < (x3_3.length:Int))=true:=decide_eq_true c9
        clear c9
        (first|rw [c9b0]|(simp only [i64_w,i32_w];rw [c9b0])|skip)
        obtain ⟨c10,H⟩:=ifS H
        have c10b0:decide (0≤x7_3)=true:=decide_eq_true c10
        clear c10
        obtain ⟨c11,H⟩:=ifS H
        have c11b0:decide (0≤(rd x3_3 x7_3))=true:=decide_eq_true c11
        clear c11
        obtain ⟨c12,H⟩:=ifS H
        have c12b0:decide ((rd x3_3 x7_3) < (l0.length:Int))=true:=decide_eq_true c12
        clear c12
        obtain ⟨t332,A130,H⟩:=Option.bind_eq_some_iff.mp H
        try dsimp only at H
        have A13:=Am A130
        clear A130
        have H':=Am H
        clear H
        have p330:0≤(x7_3:Int):=tD
        have q330:x7_3 < (x3_3.length:Int):=tD
        obtain ⟨ad330,e330,hx330_0⟩:=Kd.at_int (Kd.R_reads' HO_3.out).2.2 x7_3 p330 q330
        cases e330
        replace p330:=eq_true p330
        replace q330:=eq_true q330
        have p331:0≤((rd x3_3 x7_3):Int):=tD
        have q331:(rd x3_3 x7_3) < (l0.length:Int):=tD
        obtain ⟨ad331,e331,hx331_0⟩:=Kd.at_int HR0.out (rd x3_3 x7_3) p331 q331
        cases e331
        replace hx331_0:=cellU HB.out hx331_0
        replace p331:=eq_true p331
        replace q331:=eq_true q331
        go_wp2_with (first|(go_at_call 61;(with_reducible refine (q16_Cut.calls (rd l0 (rd x3_3 x7_3)) t332 _ A13.out).mono ?_);rintro e w14 ⟨rfl,hb⟩;replace HO_3:=Am (Kd.R_below (RU HO_3.out) hb);replace HB:=Am (below_step TB hb);(try clear hb);(try clear hb2);(try clear hk);(try clear hi)))
        go_meet
        case rel=>exact ⟨_,(decide (t332≥x5_2)),TS,H',⟨by have:=HK1.out;have:=HK2.out;have:=HK3.out;first|omega|exact Nat.le_refl _⟩,⟨RU HO_3.out⟩,⟨TB⟩⟩
       case rest =>
        clear HC7
        obtain ⟨kq,x45_6,rfl,HA,HJ6,HO_3,HB⟩:=hcut
        cases kq with
        | zero=>exact absurd HA.out (by simp [q16_Order.j3])
        | succ kj6 =>
         have H:=HA.out
         clear HA
         simp only [q16_Order.j3] at H
         by_cases c15:x45_6=true
         ·
          subst c15
          rw [if_pos rfl] at H
          have H':=Am H
          clear H
          go_wp2
          go_roundg kj6
          case measure=>have:=HK1.out;have:=HK2.out;have:=HK3.out;have:=HJ6.out;omega
          case rel=>exact ⟨(x3_3),(x6_3),(wrap64 (x7_3+1)),TS,TS,H',⟨by have:=HK1.out;have:=HK2.out;have:=HK3.out;have:=HJ6.out;omega⟩,⟨RU HO_3.out⟩,⟨TB⟩⟩
         replace c15:=Bool.eq_false_iff.mpr c15
         subst c15
         rw [if_neg (show ¬ (false=true) by decide)] at H
         have H':=Am H
         clear H
         go_wp2
         go_loopg [8,9] kj6 (fun kq v8 v9 w'=> ∃ (x3_5:List Int) (x8_5:Int) (x9_5:Int),v8= .int .i64 x8_5∧v9= .int .i64 x9_5∧Aside0 (q16_Order.l3 kq l0 x3_5 x5_2 x7_3 x8_5 x9_5=some r)∧Aside0 (kq≤kj6)∧Aside0 (Kd.R (Kd.int .i64) 3 w' w.heap.size (fun _=>True) (.slice Ao8 x3_3.length co8) x3_5)∧Aside0 (Below w.heap.size w w'))
         case atStart=>exact ⟨(x3_3),(x6_3),(wrap64 (x7_3 - 1)),TS,TS,H',⟨Nat.le_refl _⟩,⟨RU HO_3.out⟩,⟨TB⟩⟩
         case round =>
          clear H'
          obtain ⟨x3_5,x8_5,x9_5,rfl,rfl,HA,HK5,HO_3,HB⟩:=hrel
          have hl3_5:=(Kd.R_reads' HO_3.out).1
          rw [hl3_5] at HO_3
          (try simp only [hl3_5])
          cases gk with
          | zero=>exact absurd HA.out (by simp [q16_Order.l3])
          | succ k5 =>
           have H:=HA.out
           clear HA
           simp only [q16_Order.l3] at H
           by_cases c16:x8_5 < x9_5
           rotate_left
           ·
            rw [if_neg c16] at H
            have c16b0:decide (x8_5 < x9_5)=false:=decide_eq_false c16
            clear c16
            have H':=Am H
            clear H
            go_wp2
            (try simp only [← hl3_5])
            go_roundg k5
            case measure=>have:=HK1.out;have:=HK2.out;have:=HK3.out;have:=HJ6.out;have:=HK5.out;omega
            case rel=>exact ⟨(x3_5),(wrap64 (x7_3+1)),(wrap64 (x7_3+1)),TS,TS,H',⟨by have:=HK1.out;have:=HK2.out;have:=HK3.out;have:=HJ6.out;have:=HK5.out;omega⟩,⟨by (try simp only [hl3_5]);(with_reducible repeat (first|apply Kd.R_alloc|apply Kd.R_drewN|apply Kd.R_drew));exact HO_3.out⟩,⟨TB⟩⟩
           rw [if_pos c16] at H
           have c16b0:decide (x8_5 < x9_5)=true:=decide_eq_true c16
           clear c16
           obtain ⟨c17,H⟩:=ifS H
           have c17b0:decide (0≤x9_5)=true:=decide_eq_true c17
           clear c17
           obtain ⟨c18,H⟩:=ifS H
           have c18b0:decide (x9_5 < (x3_5.length:Int))=true:=decide_eq_true c18
           clear c18
           obtain ⟨c19,H⟩:=ifS H
           have c19b0:decide (0≤x8_5)=true:=decide_eq_true c19
           clear c19
           obtain ⟨c20,H⟩:=ifS H
           have c20b0:decide (x8_5 < (x3_5.length:Int))=true:=decide_eq_true c20
           clear c20
           obtain ⟨y335,hy335⟩: ∃ y_:List Int,y_=(x3_5.set (x8_5:Int).toNat (rd x3_5 x9_5)):=⟨_,rfl⟩
           replace H:(q16_Order.l3 k5 l0 (y335.set (x9_5:Int).toNat (rd x3_5 x8_5)) x5_2 x7_3 (wrap64 (x8_5+1)) (wrap64 (x9_5 - 1)))=some r:=by first|(rw [hy335];with_reducible exact H)|(have H2_:=(Option.bind_some _ _).symm.trans H;rw [hy335];with_reducible exact H2_)|(have H2_:=(Option.bind_some _ _).symm.trans H;with_reducible exact H2_)|with_reducible exact H|(rw [hy335];exact H)|exact H
           have Ny335:=Am hy335
           clear hy335
           obtain ⟨y336,hy336⟩: ∃ y_:List Int,y_=(y335.set (x9_5:Int).toNat (rd x3_5 x8_5)):=⟨_,rfl⟩
           replace H:(q16_Order.l3 k5 l0 y336 x5_2 x7_3 (wrap64 (x8_5+1)) (wrap64 (x9_5 - 1)))=some r:=by first|(rw [hy336];with_reducible exact H)|(have H2_:=(Option.bind_some _ _).symm.trans H;rw [hy336];with_reducible exact H2_)|(have H2_:=(Option.bind_some _ _).symm.trans H;with_reducible exact H2_)|with_reducible exact H|(rw [hy336];exact H)|exact H
           have Ny336:=Am hy336
           clear hy336
           have H':=Am H
           clear H
           try go_wp2
           replace HO_3:=Am (Kd.R_drew HO_3.out)
           replace HB:=Am (below_drew1 HB.out)
           have p333:0≤(x9_5:Int):=tD
           have q333:x9_5 < (x3_5.length:Int):=tD
           obtain ⟨ad333,e333,hx333_0⟩:=Kd.at_int (Kd.R_reads' HO_3.out).2.2 x9_5 p333 q333
           cases e333
           replace p333:=eq_true p333
           replace q333:=eq_true q333
           have p334:0≤(x8_5:Int):=tD
           have q334:x8_5 < (x3_5.length:Int):=tD
           obtain ⟨ad334,e334,hx334_0⟩:=Kd.at_int (Kd.R_reads' HO_3.out).2.2 x8_5 p334 q334
           obtain rfl:ad333=ad334:=(by injection e334)
           replace p334:=eq_true p334
           replace q334:=eq_true q334
           have p21:0≤(x8_5:Int):=tD
           have q21:(x8_5:Int) < ((x3_5.length:Int):Int):=tD
           obtain ⟨go21,co21,eo21,gb21,gl21,cl21,HG21⟩:=Kd.R_form HO_3.out (by omega)
           (first|cases eo21|(injection eo21 with ea_ en_ ec_;(first|subst ea_|(injection ea_ with ea_;subst ea_));subst ec_;clear en_))
           have GB21:=Am gb21
           have GG21:=Am HG21
           clear gb21 gl21 HG21
           (first|simp only [add_plain] at hx333_0|skip)
           (first|simp only [add_plain] at hx334_0|skip)
           obtain ⟨hx21_0,hf21_0⟩:=Kd.R_celln 0 HO_3.out (x8_5:Int) p21 q21
           replace p21:=eq_true p21
           replace q21:=eq_true q21
           have HP24:=Kd.R_putn HO_3.out (x8_5:Int) (rd x3_5 x9_5)
           rw [← Ny335.out] at HP24
           have HQ24:=Am HP24
           clear HP24
           have p22:0≤(x9_5:Int):=tD
           have q22:(x9_5:Int) < ((x3_5.length:Int):Int):=tD
           obtain ⟨hx22_0,hf22_0⟩:=Kd.R_celln 0 HQ24.out (x9_5:Int) p22 q22
           replace p22:=eq_true p22
           replace q22:=eq_true q22
           have HP25:=Kd.R_putn HQ24.out (x9_5:Int) (rd x3_5 x8_5)
           rw [← Ny336.out] at HP25
           have HQ25:=Am HP25
           clear HP25
           refine start_ (n:=16) (S:=fun w'=>w'.cell? ⟨go21,(x9_5).toNat,none⟩=some (.int .i64 (rd x3_5 x9_5))∧w'.cell? ⟨go21,(x8_5).toNat,none⟩=some (.int .i64 (rd x3_5 x8_5))) (ds:=[13,15]) (bl 16 0) TK rfl rfl ⟨hx333_0,hx334_0⟩ (fun hHeld=>?_);refine with_tabW q16_Order.tab17 q16_Order.bits17 (fun HT_ HW_=>?_)
           generalize wr.drew=w23 at HO_3 HB GG21 HQ24 HQ25 hf21_0 hf22_0 hx21_0 hx22_0 hx333_0 hx334_0 hHeld ⊢
           refine pureS (i:=0) (N:=some 56) (bl 16 1) rfl rfl (any_of HT_.out TK) ?_
           refine pureS (i:=1) (N:=some 57) (bl 16 3) rfl rfl (any_of HT_.out TK) ?_
           refine pureS (i:=2) (N:=some 58) (bl 16 7) rfl rfl (any_of HT_.out TK) ?_
           refine pureS (i:=3) (N:=some 59) (bl 16 15) rfl rfl (any_of HT_.out TK) ?_
           refine pureS (i:=4) (N:=some 60) (bl 16 31) rfl rfl (any_of HT_.out TK) ?_
           refine pureS (i:=5) (N:=some 61) (bl 16 63) rfl rfl (any_of HT_.out TK) ?_
           refine pureS (i:=6) (N:=some 62) (bl 16 127) rfl rfl (any_of HT_.out TK) ?_
           refine pureS (i:=8) (N:=some 64) (bl 16 383) rfl rfl (any_of HT_.out TK) ?_
           refine pureS (i:=9) (N:=some 65) (bl 16 895) rfl rfl (any_of HT_.out TK) ?_
           refine pureS (i:=10) (N:=some 66) (bl 16 1919) rfl rfl (any_of HT_.out TK) ?_
           refine take_ (i:=7) (N:=some 63) (v:=?_) (a':=?_) (bl 16 2047) rfl rfl (take_ofW HT_.out HW_.out TK) (fun _ _ _ h=>h) (Or.inl ⟨by rfl,?_⟩) hHeld ?_ ?_
           rotate_left
           ·
            rintro w' ⟨s0,s1⟩
            go_simp
            with_reducible rfl
           rotate_left
           ·
            simp only [PT]
            rfl
           refine take_ (i:=11) (N:=some 67) (v:=?_) (a':=?_) (bl 16 4095) rfl rfl (take_ofW HT_.out HW_.out TK) (fun _ _ _ h=>h) (Or.inl ⟨by rfl,?_⟩) hHeld ?_ ?_
           rotate_left
           ·
            rintro w' ⟨s0,s1⟩
            go_simp
            with_reducible rfl
           rotate_left
           ·
            simp only [PT]
            rfl
           refine pureS (i:=12) (N:=some 68) (bl 16 8191) rfl rfl (any_of HT_.out TK) ?_
           refine last_ (i:=13) (N:=none) (bl 16 16383) rfl rfl (one_of HT_.out TK) (by decide) (fun K hK=>?_)
           refine skip_ (w1:=?_) (by rfl) rfl ?_ ?_
           rotate_left
           ·
            go_simp
            rfl
           refine hK.out _ _ ?_
           clear hK K
           refine pureS (i:=14) (N:=some 69) (bl 16 32767) rfl rfl (any_of HT_.out TK) ?_
           refine last_ (i:=15) (N:=none) (bl 16 65535) rfl rfl (one_of HT_.out TK) (by decide) (fun K hK=>?_)
           refine skip_ (w1:=?_) (by rfl) rfl ?_ ?_
           rotate_left
           ·
            go_simp
            rfl
           refine hK.out _ _ ?_
           clear hK K
           refine done_ (done_of HT_.out TK) ?_
           try go_wp2
           (try simp only [← hl3_5])
           go_roundg k5
           case measure=>have:=HK1.out;have:=HK2.out;have:=HK3.out;have:=HJ6.out;have:=HK5.out;omega
           case rel=>exact ⟨(y336),(wrap64 (x8_5+1)),(wrap64 (x9_5 - 1)),TS,TS,H',⟨by have:=HK1.out;have:=HK2.out;have:=HK3.out;have:=HJ6.out;have:=HK5.out;omega⟩,⟨by (try simp only [hl3_5]);(with_reducible repeat (first|apply Kd.R_alloc|apply Kd.R_drewN|apply Kd.R_drew));exact HQ25.out⟩,⟨by repeat (first|(with_reducible first|exact HB.out|apply below_alloc|apply pw_below_drewN|apply below_drew1|refine below_set ?_ GB21.out|refine below_set ?_ GB21.out)|exact HB.out)⟩⟩
end Go.Proofs.Yteoaegigjlhamaa.PC19
