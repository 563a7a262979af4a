/- Chapter 19, printed: what the functions compute, and proofs that they do. -/
import Derived.Test.YteoaegigjlhamaaPC19x0
import Derived.Test.YteoaegigjlhamaaPC19x11
namespace Go.Proofs.Yteoaegigjlhamaa.PC19
open Go.RowKit Go.Proofs.YteoaegigjlhamaaW.PrintWords Go.Proofs.YteoaegigjlhamaaW.PrintLast Go.Proofs.YteoaegigjlhamaaW.PrintMore
attribute [local go_sem] max2_int min2_int max_two min_two max_three min_three max_four min_four
set_option linter.unusedVariables false
set_option maxRecDepth 100000
set_option linter.unusedSimpArgs false
mutual
def q16_Line.l0:Nat→List (S36)→List Int→Int→List Int→List Int→Int→Option (List Int)
 | 0,_,_,_,_,_,_=>none
 | k+1,x0,x1,x2,x7,x8,x9=>if x9 < (x0.length:Int) then (q16_Line.l1 k x0 x1 x2 x7 x8 x9 x9) else (some x8)
def q16_Line.l1:Nat→List (S36)→List Int→Int→List Int→List Int→Int→Int→Option (List Int)
 | 0,_,_,_,_,_,_,_=>none
 | k+1,x0,x1,x2,x7,x8,x9,x10=>if x10 < (x0.length:Int) then (if 0≤x10 then (if x10 < (x7.length:Int) then ((q16_blank.f (rd x7 x10)).bind fun t414=>(if t414=true then (q16_Line.l1 k x0 x1 x2 x7 x8 x9 (wrap64 (x10+1))) else (if 0≤x9 then (if x9 < (x1.length:Int) then (if x10=(x0.length:Int) then (if x8.length < 17592186044416 then (q16_Line.l0 k x0 x1 x2 x7 (x8++[x2]) (wrap64 (x9+1))) else (none)) else (if (rd x7 x10)=11 then (if x8.length < 17592186044416 then (q16_Line.l0 k x0 x1 x2 x7 (x8++[x2]) (wrap64 (x9+1))) else (none)) else (if (rd x7 x10)=10 then (if x8.length < 17592186044416 then (q16_Line.l0 k x0 x1 x2 x7 (x8++[x2]) (wrap64 (x9+1))) else (none)) else (if x8.length < 17592186044416 then (q16_Line.l0 k x0 x1 x2 x7 (x8++[rd x1 x9]) (wrap64 (x9+1))) else (none))))) else (none)) else (none)))) else (none)) else (none)) else (if 0≤x9 then (if x9 < (x1.length:Int) then (if x10=(x0.length:Int) then (if x8.length < 17592186044416 then (q16_Line.l0 k x0 x1 x2 x7 (x8++[x2]) (wrap64 (x9+1))) else (none)) else (if 0≤x10 then (if x10 < (x7.length:Int) then (if (rd x7 x10)=11 then (if x8.length < 17592186044416 then (q16_Line.l0 k x0 x1 x2 x7 (x8++[x2]) (wrap64 (x9+1))) else (none)) else (if (rd x7 x10)=10 then (if x8.length < 17592186044416 then (q16_Line.l0 k x0 x1 x2 x7 (x8++[x2]) (wrap64 (x9+1))) else (none)) else (if x8.length < 17592186044416 then (q16_Line.l0 k x0 x1 x2 x7 (x8++[rd x1 x9]) (wrap64 (x9+1))) else (none)))) else (none)) else (none))) else (none)) else (none))
end
def q16_Line.f (k:Nat) (l0:List (S36)) (l1:List Int) (a2:Int):Option (List Int):=if (l0.length:Int)=(l1.length:Int) then ((q02_All.f k l0).bind fun t410=>(q16_Line.l0 k l0 l1 a2 t410 ([]:List Int) 0)) else (some ([]:List Int))
theorem q16_Line.mono_l: ∀ k,(∀ y0 y1 y2 y3 y4 y5,LeO (q16_Line.l0 k y0 y1 y2 y3 y4 y5) (q16_Line.l0 (k+1) y0 y1 y2 y3 y4 y5))∧(∀ y0 y1 y2 y3 y4 y5 y6,LeO (q16_Line.l1 k y0 y1 y2 y3 y4 y5 y6) (q16_Line.l1 (k+1) y0 y1 y2 y3 y4 y5 y6))
 | 0=>⟨fun _ _ _ _ _ _ r h=>by simp [q16_Line.l0] at h,fun _ _ _ _ _ _ _ r h=>by simp [q16_Line.l1] at h⟩
 | k+1=>by
  obtain ⟨ih0,ih1⟩:=q16_Line.mono_l k
  refine ⟨?_,?_⟩
  ·
   intros
   unfold q16_Line.l0
   have j0:=@q02_All.mono
   exact TL
  ·
   intros
   unfold q16_Line.l1
   have j0:=@q02_All.mono
   exact TL
theorem q16_Line.mono: ∀ a0 a1 a2 k,LeO (q16_Line.f k a0 a1 a2) (q16_Line.f (k+1) a0 a1 a2):=by
 intro a0 a1 a2 k
 obtain ⟨ih0,ih1⟩:=q16_Line.mono_l k
 unfold q16_Line.f
 repeat' first
   | (with_reducible exact ih0 _ _ _ _ _ _)
   | (with_reducible exact ih1 _ _ _ _ _ _ _)
   | (with_reducible exact q02_All.mono _ _)
   | (with_reducible exact LeO.refl _)
   | (with_reducible exact LeO.none _)
   | (with_reducible refine LeO.ite ?_ ?_)
   | (with_reducible refine LeO.bind ?_ (fun _=>?_))
set_option maxHeartbeats 8000000 in
theorem q16_Line.calls (k:Nat) (A0:Option Addr) (c0:Nat) (l0:List (S36)) (A1:Option Addr) (c1:Nat) (l1:List Int) (a2:Int) (r:List Int) (w:World) (hr0:Kd.C k36 w A0 l0.length l0) (hc0:l0.length≤c0) (hr1:Kd.C (Kd.int .i64) w A1 l1.length l1) (hc1:l1.length≤c1) (h:q16_Line.f k l0 l1 a2=some r) :
  Calls Try.prog 42 #[.slice A0 l0.length c0,.slice A1 l1.length c1,.int .i64 a2] w fun e w'=> ∃ v0_:Value,e= .returned (v0_)∧Kd.R (Kd.int .i64) 3 w' w.heap.size (fun _=>True) v0_ r∧Below w.heap.size w w':=by
 have HR0:=Am hr0
 have HC0:=Am hc0
 clear hr0 hc0
 have HR1:=Am hr1
 have HC1:=Am hc1
 clear hr1 hc1
 have HB:=Am (Below.refl w.heap.size w)
 have H:(if (l0.length:Int)=(l1.length:Int) then ((q02_All.f k l0).bind fun t410=>(q16_Line.l0 k l0 l1 a2 t410 ([]:List Int) 0)) else (some ([]:List Int)))=some r:=h
 clear h
 by_cases c4:(l0.length:Int)=(l1.length:Int)
 rotate_left
 ·
  rw [if_neg c4] at H
  have c4b0:((l0.length:Int)==(l1.length:Int))=false:=beq_eq_false_iff_ne.mpr c4
  have c4b1:((l0.length:Int) !=(l1.length:Int))=true:=bne_iff_ne.mpr c4
  have c4b2:(l0.length==l1.length)=false:=by first|simpa using c4|(simp at c4 ⊢;omega)
  obtain rfl:=Option.some.inj H
  go_enter Try.func42,Try.ntmps42
  try dsimp only [List.append]
  go_wp2
  go_ret
  exact ⟨_,TE,by first|exact Kd.R_nil _ _ _ _ _|exact Kd.N_nil _ _ _ _ _|exact Kd.V_nil _ _ _ _ _|exact Kd.Q_nil _ _ _ _ _|exact Kd.S_nil _ _ _ _ _,TB⟩
 rw [if_pos c4] at H
 have c4b0:((l0.length:Int)==(l1.length:Int))=true:=beq_iff_eq.mpr c4
 have c4b1:((l0.length:Int) !=(l1.length:Int))=false:=bne_eq_false_iff_eq.mpr c4
 have c4b2:(l0.length==l1.length)=true:=by first|simpa using c4|(simp at c4 ⊢;omega)
 clear c4
 obtain ⟨t410,A50,H⟩:=Option.bind_eq_some_iff.mp H
 try dsimp only at H
 have A5:=Am A50
 clear A50
 have H':=Am H
 clear H
 go_enter Try.func42,Try.ntmps42
 try dsimp only [List.append]
 go_wp2_with (first|((with_reducible refine gate_callee (f:=63) rfl ?_);refine goesL_ (some 18) rfl rfl Try.func63 TK rfl #[.slice A0 l0.length c0] rfl TM ?_;(with_reducible refine (q02_All.calls k _ _ l0 t410 _ ?side1 ?side2 A5.out).mono ?_);(case side1=>exact CU HR0.out);(case side2=>exact HC0.out);rintro e w6 ⟨v411,rfl,ho0,hb⟩;refine ⟨_,rfl,?_⟩;have HO412:=Am (Kd.R_lower ho0 (below_size TB));replace HB:=Am (below_step TB hb);(try clear hb);(try clear hb2);(try clear hk);(try clear hi);(try clear ho0)))
 go_loopg [8,9] k (fun kq v8 v9 w'=> ∃ (x8_1:List Int) (x9_1:Int),v9= .int .i64 x9_1∧Aside0 (q16_Line.l0 kq l0 l1 a2 t410 x8_1 x9_1=some r)∧Aside0 (kq≤k)∧Aside0 (Kd.R (Kd.int .i64) 3 w' w.heap.size (fun k_=>some k_≠(v8:Value).ownBlock) v411 t410)∧Aside0 (Kd.R (Kd.int .i64) 3 w' w.heap.size (fun k_=>some k_≠(v411:Value).ownBlock) v8 x8_1)∧Aside0 (Below w.heap.size w w'))
 case atStart=>exact ⟨(([]:List Int)),(0),TS,H',⟨Nat.le_refl _⟩,⟨RU (Kd.R_mono HO412.out (fun _ hk=>(by simp [Value.ownBlock])))⟩,⟨by first|exact Kd.R_nil _ _ _ _ _|exact Kd.N_nil _ _ _ _ _|exact Kd.V_nil _ _ _ _ _|exact Kd.Q_nil _ _ _ _ _|exact Kd.S_nil _ _ _ _ _⟩,⟨TB⟩⟩
 case round =>
  clear H'
  obtain ⟨x8_1,x9_1,rfl,HA,HK1,HO_7,HO_8,HB⟩:=hrel
  cases gk with
  | zero=>exact absurd HA.out (by simp [q16_Line.l0])
  | succ k1 =>
   have H:=HA.out
   clear HA
   simp only [q16_Line.l0] at H
   by_cases c7:x9_1 < (l0.length:Int)
   rotate_left
   ·
    rw [if_neg c7] at H
    have c7b0:decide (x9_1 < (l0.length:Int))=false:=decide_eq_false c7
    clear c7
    obtain rfl:=Option.some.inj H
    go_wp2
    go_ret
    exact ⟨_,TE,RU (Kd.R_mono HO_8.out (fun _ hk=>trivial)),TB⟩
   rw [if_pos c7] at H
   have c7b0:decide (x9_1 < (l0.length:Int))=true:=decide_eq_true c7
   clear c7
   have H':=Am H
   clear H
   go_wp2
   go_loopg [10] k1 (fun kq v10 w'=> ∃ (x10_2:Int),v10= .int .i64 x10_2∧Aside0 (q16_Line.l1 kq l0 l1 a2 t410 x8_1 x9_1 x10_2=some r)∧Aside0 (kq≤k1)∧Aside0 (Kd.R (Kd.int .i64) 3 w' w.heap.size (fun k_=>some k_≠(u8:Value).ownBlock) v411 t410)∧Aside0 (Kd.R (Kd.int .i64) 3 w' w.heap.size (fun k_=>some k_≠(v411:Value).ownBlock) u8 x8_1)∧Aside0 (Below w.heap.size w w'))
   case atStart=>exact ⟨(x9_1),TS,H',⟨Nat.le_refl _⟩,⟨RU HO_7.out⟩,⟨RU HO_8.out⟩,⟨TB⟩⟩
   case round =>
    clear H'
    obtain ⟨x10_2,rfl,HA,HK2,HO_7,HO_8,HB⟩:=hrel
    cases gk with
    | zero=>exact absurd HA.out (by simp [q16_Line.l1])
    | succ k2 =>
     have H:=HA.out
     clear HA
     simp only [q16_Line.l1] at H
     by_cases c8:x10_2 < (l0.length:Int)
     rotate_left
     ·
      rw [if_neg c8] at H
      have c8b0:decide (x10_2 < (l0.length:Int))=false:=decide_eq_false c8
      clear c8
      obtain ⟨c31,H⟩:=ifS H
      have c31b0:decide (0≤x9_1)=true:=decide_eq_true c31
      clear c31
      obtain ⟨c32,H⟩:=ifS H
      have c32b0:decide (x9_1 < (l1.length:Int))=true:=decide_eq_true c32
      clear c32
      by_cases c33:x10_2=(l0.length:Int)
      ·
       rw [if_pos c33] at H
       have c33b0:(x10_2==(l0.length:Int))=true:=beq_iff_eq.mpr c33
       have c33b1:(x10_2 !=(l0.length:Int))=false:=bne_eq_false_iff_eq.mpr c33
       clear c33
       obtain ⟨c34,H⟩:=ifS H
       have LMc34:=Am c34
       clear c34
       obtain ⟨y431,hy431⟩: ∃ y_:List Int,y_=(x8_1++[a2]):=⟨_,rfl⟩
       replace H:(q16_Line.l0 k2 l0 l1 a2 t410 y431 (wrap64 (x9_1+1)))=some r:=by first|(rw [hy431];with_reducible exact H)|(have H2_:=(Option.bind_some _ _).symm.trans H;rw [hy431];with_reducible exact H2_)|(have H2_:=(Option.bind_some _ _).symm.trans H;with_reducible exact H2_)|with_reducible exact H|(rw [hy431];exact H)|exact H
       have Ny431:=Am hy431
       clear hy431
       have H':=Am H
       clear H
       have p430:0≤(x9_1:Int):=tD
       have q430:x9_1 < (l1.length:Int):=tD
       obtain ⟨ad430,e430,hx430_0⟩:=Kd.at_int HR1.out x9_1 p430 q430
       cases e430
       replace hx430_0:=cellU HB.out hx430_0
       replace p430:=eq_true p430
       replace q430:=eq_true q430
       go_wp2_with (first|((with_reducible refine gate_builtin (b:= .append) (xs:= #[.tmp 62,.tmp 64]) rfl ?_);at_builtin;refine Kd.R_append (Kd.int .i64) (w0:=w) w.heap.size rfl (.tmp 62) (.tmp 64) 23 3 (.int .i64 0) 8 rfl Try.underlying23 info3 rfl (by decide) (by omega) u8 x8_1 a2 [.int .i64 a2] (fun k_=>some k_≠(v411:Value).ownBlock) (fun _=>False) rfl rfl ?aP (fun _ hk=>hk.elim) ?aF ?aO ?aB ?aS ?aL ?_;(case aP=>exact rfl);(case aB=>exact TB);(case aF=>exact (fun k_ hk=>Kd.fresh' (Kd.R_lt (RU HO_7.out)) k_ hk));(case aO=>exact (RU HO_8.out));(case aS=>exact (below_size TB));(case aL=>have:=LMc34.out;omega);intro v432 w35 ho hb hg hat;rw [← Ny431.out] at ho;replace HO_7:=Am (Kd.R_after (ok:=(fun _=>True)) (RU (Kd.R_mono HO_7.out (fun _ hk=>⟨trivial,hk⟩))) hg hat);have HO433:=Am (ho);replace HB:=Am (hb);clear HO_8;clear ho hb hg hat))
       go_roundg k2
       case measure=>have:=HK1.out;have:=HK2.out;omega
       case rel=>exact ⟨(y431),(wrap64 (x9_1+1)),TS,H',⟨by have:=HK1.out;have:=HK2.out;omega⟩,⟨RU (Kd.R_mono HO_7.out (fun _ hk=>hk.2))⟩,⟨RU HO433.out⟩,⟨TB⟩⟩
      rw [if_neg c33] at H
      have c33b0:(x10_2==(l0.length:Int))=false:=beq_eq_false_iff_ne.mpr c33
      have c33b1:(x10_2 !=(l0.length:Int))=true:=bne_iff_ne.mpr c33
      obtain ⟨c36,H⟩:=ifS H
      have c36b0:decide (0≤x10_2)=true:=decide_eq_true c36
      clear c36
      obtain ⟨c37,H⟩:=ifS H
      have c37b0:decide (x10_2 < (t410.length:Int))=true:=decide_eq_true c37
      clear c37
      by_cases c38:(rd t410 x10_2)=11
      ·
       rw [if_pos c38] at H
       have c38b0:((rd t410 x10_2)==11)=true:=beq_iff_eq.mpr c38
       have c38b1:((rd t410 x10_2) !=11)=false:=bne_eq_false_iff_eq.mpr c38
       clear c38
       obtain ⟨c39,H⟩:=ifS H
       have LMc39:=Am c39
       clear c39
       obtain ⟨y435,hy435⟩: ∃ y_:List Int,y_=(x8_1++[a2]):=⟨_,rfl⟩
       replace H:(q16_Line.l0 k2 l0 l1 a2 t410 y435 (wrap64 (x9_1+1)))=some r:=by first|(rw [hy435];with_reducible exact H)|(have H2_:=(Option.bind_some _ _).symm.trans H;rw [hy435];with_reducible exact H2_)|(have H2_:=(Option.bind_some _ _).symm.trans H;with_reducible exact H2_)|with_reducible exact H|(rw [hy435];exact H)|exact H
       have Ny435:=Am hy435
       clear hy435
       have H':=Am H
       clear H
       have p430:0≤(x9_1:Int):=tD
       have q430:x9_1 < (l1.length:Int):=tD
       obtain ⟨ad430,e430,hx430_0⟩:=Kd.at_int HR1.out x9_1 p430 q430
       cases e430
       replace hx430_0:=cellU HB.out hx430_0
       replace p430:=eq_true p430
       replace q430:=eq_true q430
       obtain ⟨Ao40,co40,eo40⟩:=Kd.R_slice HO_7.out
       subst eo40
       have p434:0≤(x10_2:Int):=tD
       have q434:x10_2 < (t410.length:Int):=tD
       obtain ⟨ad434,e434,hx434_0⟩:=Kd.at_int (Kd.R_reads' HO_7.out).2.2 x10_2 p434 q434
       cases e434
       replace p434:=eq_true p434
       replace q434:=eq_true q434
       go_wp2_with (first|((with_reducible refine gate_builtin (b:= .append) (xs:= #[.tmp 62,.tmp 64]) rfl ?_);at_builtin;refine Kd.R_append (Kd.int .i64) (w0:=w) w.heap.size rfl (.tmp 62) (.tmp 64) 23 3 (.int .i64 0) 8 rfl Try.underlying23 info3 rfl (by decide) (by omega) u8 x8_1 a2 [.int .i64 a2] (fun k_=>some k_≠(.slice (some ad434) t410.length co40:Value).ownBlock) (fun _=>False) rfl rfl ?aP (fun _ hk=>hk.elim) ?aF ?aO ?aB ?aS ?aL ?_;(case aP=>exact rfl);(case aB=>exact TB);(case aF=>exact (fun k_ hk=>Kd.fresh' (Kd.R_lt (RU HO_7.out)) k_ hk));(case aO=>exact (RU HO_8.out));(case aS=>exact (below_size TB));(case aL=>have:=LMc39.out;omega);intro v436 w41 ho hb hg hat;rw [← Ny435.out] at ho;replace HO_7:=Am (Kd.R_after (ok:=(fun _=>True)) (RU (Kd.R_mono HO_7.out (fun _ hk=>⟨trivial,hk⟩))) hg hat);have HO437:=Am (ho);replace HB:=Am (hb);clear HO_8;clear ho hb hg hat))
       go_roundg k2
       case measure=>have:=HK1.out;have:=HK2.out;omega
       case rel=>exact ⟨(y435),(wrap64 (x9_1+1)),TS,H',⟨by have:=HK1.out;have:=HK2.out;omega⟩,⟨RU (Kd.R_mono HO_7.out (fun _ hk=>hk.2))⟩,⟨RU HO437.out⟩,⟨TB⟩⟩
      rw [if_neg c38] at H
      have c38b0:((rd t410 x10_2)==11)=false:=beq_eq_false_iff_ne.mpr c38
      have c38b1:((rd t410 x10_2) !=11)=true:=bne_iff_ne.mpr c38
      by_cases c42:(rd t410 x10_2)=10
      ·
       rw [if_pos c42] at H
       have c42b0:((rd t410 x10_2)==10)=true:=beq_iff_eq.mpr c42
       have c42b1:((rd t410 x10_2) !=10)=false:=bne_eq_false_iff_eq.mpr c42
       clear c42
       obtain ⟨c43,H⟩:=ifS H
       have LMc43:=Am c43
       clear c43
       obtain ⟨y439,hy439⟩: ∃ y_:List Int,y_=(x8_1++[a2]):=⟨_,rfl⟩
       replace H:(q16_Line.l0 k2 l0 l1 a2 t410 y439 (wrap64 (x9_1+1)))=some r:=by first|(rw [hy439];with_reducible exact H)|(have H2_:=(Option.bind_some _ _).symm.trans H;rw [hy439];with_reducible exact H2_)|(have H2_:=(Option.bind_some _ _).symm.trans H;with_reducible exact H2_)|with_reducible exact H|(rw [hy439];exact H)|exact H
       have Ny439:=Am hy439
       clear hy439
       have H':=Am H
       clear H
       have p430:0≤(x9_1:Int):=tD
       have q430:x9_1 < (l1.length:Int):=tD
       obtain ⟨ad430,e430,hx430_0⟩:=Kd.at_int HR1.out x9_1 p430 q430
       cases e430
       replace hx430_0:=cellU HB.out hx430_0
       replace p430:=eq_true p430
       replace q430:=eq_true q430
       obtain ⟨Ao44,co44,eo44⟩:=Kd.R_slice HO_7.out
       subst eo44
       have p434:0≤(x10_2:Int):=tD
       have q434:x10_2 < (t410.length:Int):=tD
       obtain ⟨ad434,e434,hx434_0⟩:=Kd.at_int (Kd.R_reads' HO_7.out).2.2 x10_2 p434 q434
       cases e434
       replace p434:=eq_true p434
       replace q434:=eq_true q434
       have p438:0≤(x10_2:Int):=tD
       have q438:x10_2 < (t410.length:Int):=tD
       obtain ⟨ad438,e438,hx438_0⟩:=Kd.at_int (Kd.R_reads' HO_7.out).2.2 x10_2 p438 q438
       obtain rfl:ad434=ad438:=(by injection e438)
       replace p438:=eq_true p438
       replace q438:=eq_true q438
       go_wp2_with (first|((with_reducible refine gate_builtin (b:= .append) (xs:= #[.tmp 62,.tmp 64]) rfl ?_);at_builtin;refine Kd.R_append (Kd.int .i64) (w0:=w) w.heap.size rfl (.tmp 62) (.tmp 64) 23 3 (.int .i64 0) 8 rfl Try.underlying23 info3 rfl (by decide) (by omega) u8 x8_1 a2 [.int .i64 a2] (fun k_=>some k_≠(.slice (some ad434) t410.length co44:Value).ownBlock) (fun _=>False) rfl rfl ?aP (fun _ hk=>hk.elim) ?aF ?aO ?aB ?aS ?aL ?_;(case aP=>exact rfl);(case aB=>exact TB);(case aF=>exact (fun k_ hk=>Kd.fresh' (Kd.R_lt (RU HO_7.out)) k_ hk));(case aO=>exact (RU HO_8.out));(case aS=>exact (below_size TB));(case aL=>have:=LMc43.out;omega);intro v440 w45 ho hb hg hat;rw [← Ny439.out] at ho;replace HO_7:=Am (Kd.R_after (ok:=(fun _=>True)) (RU (Kd.R_mono HO_7.out (fun _ hk=>⟨trivial,hk⟩))) hg hat);have HO441:=Am (ho);replace HB:=Am (hb);clear HO_8;clear ho hb hg hat))
       go_roundg k2
       case measure=>have:=HK1.out;have:=HK2.out;omega
       case rel=>exact ⟨(y439),(wrap64 (x9_1+1)),TS,H',⟨by have:=HK1.out;have:=HK2.out;omega⟩,⟨RU (Kd.R_mono HO_7.out (fun _ hk=>hk.2))⟩,⟨RU HO441.out⟩,⟨TB⟩⟩
      rw [if_neg c42] at H
      have c42b0:((rd t410 x10_2)==10)=false:=beq_eq_false_iff_ne.mpr c42
      have c42b1:((rd t410 x10_2) !=10)=true:=bne_iff_ne.mpr c42
      obtain ⟨c46,H⟩:=ifS H
      have LMc46:=Am c46
      clear c46
      obtain ⟨y442,hy442⟩: ∃ y_:List Int,y_=(x8_1++[rd l1 x9_1]):=⟨_,rfl⟩
      replace H:(q16_Line.l0 k2 l0 l1 a2 t410 y442 (wrap64 (x9_1+1)))=some r:=by first|(rw [hy442];with_reducible exact H)|(have H2_:=(Option.bind_some _ _).symm.trans H;rw [hy442];with_reducible exact H2_)|(have H2_:=(Option.bind_some _ _).symm.trans H;with_reducible exact H2_)|with_reducible exact H|(rw [hy442];exact H)|exact H
      have Ny442:=Am hy442
      clear hy442
      have H':=Am H
      clear H
      have p430:0≤(x9_1:Int):=tD
      have q430:x9_1 < (l1.length:Int):=tD
      obtain ⟨ad430,e430,hx430_0⟩:=Kd.at_int HR1.out x9_1 p430 q430
      cases e430
      replace hx430_0:=cellU HB.out hx430_0
      replace p430:=eq_true p430
      replace q430:=eq_true q430
      obtain ⟨Ao47,co47,eo47⟩:=Kd.R_slice HO_7.out
      subst eo47
      have p434:0≤(x10_2:Int):=tD
      have q434:x10_2 < (t410.length:Int):=tD
      obtain ⟨ad434,e434,hx434_0⟩:=Kd.at_int (Kd.R_reads' HO_7.out).2.2 x10_2 p434 q434
      cases e434
      replace p434:=eq_true p434
      replace q434:=eq_true q434
      have p438:0≤(x10_2:Int):=tD
      have q438:x10_2 < (t410.length:Int):=tD
      obtain ⟨ad438,e438,hx438_0⟩:=Kd.at_int (Kd.R_reads' HO_7.out).2.2 x10_2 p438 q438
      obtain rfl:ad434=ad438:=(by injection e438)
      replace p438:=eq_true p438
      replace q438:=eq_true q438
      go_wp2_with (first|((with_reducible refine gate_builtin (b:= .append) (xs:= #[.tmp 62,.tmp 64]) rfl ?_);at_builtin;refine Kd.R_append (Kd.int .i64) (w0:=w) w.heap.size rfl (.tmp 62) (.tmp 64) 23 3 (.int .i64 0) 8 rfl Try.underlying23 info3 rfl (by decide) (by omega) u8 x8_1 (rd l1 x9_1) [.int .i64 (rd l1 x9_1)] (fun k_=>some k_≠(.slice (some ad434) t410.length co47:Value).ownBlock) (fun _=>False) rfl rfl ?aP (fun _ hk=>hk.elim) ?aF ?aO ?aB ?aS ?aL ?_;(case aP=>exact rfl);(case aB=>exact TB);(case aF=>exact (fun k_ hk=>Kd.fresh' (Kd.R_lt (RU HO_7.out)) k_ hk));(case aO=>exact (RU HO_8.out));(case aS=>exact (below_size TB));(case aL=>have:=LMc46.out;omega);intro v443 w48 ho hb hg hat;rw [← Ny442.out] at ho;replace HO_7:=Am (Kd.R_after (ok:=(fun _=>True)) (RU (Kd.R_mono HO_7.out (fun _ hk=>⟨trivial,hk⟩))) hg hat);have HO444:=Am (ho);replace HB:=Am (hb);clear HO_8;clear ho hb hg hat))
      go_roundg k2
      case measure=>have:=HK1.out;have:=HK2.out;omega
      case rel=>exact ⟨(y442),(wrap64 (x9_1+1)),TS,H',⟨by have:=HK1.out;have:=HK2.out;omega⟩,⟨RU (Kd.R_mono HO_7.out (fun _ hk=>hk.2))⟩,⟨RU HO444.out⟩,⟨TB⟩⟩
     rw [if_pos c8] at H
     have c8b0:decide (x10_2 < (l0.length:Int))=true:=decide_eq_true c8
     clear c8
     obtain ⟨c9,H⟩:=ifS H
     have c9b0:decide (0≤x10_2)=true:=decide_eq_true c9
     clear c9
     obtain ⟨c10,H⟩:=ifS H
     have c10b0:decide (x10_2 < (t410.length:Int))=true:=decide_eq_true c10
     clear c10
     obtain ⟨t414,A110,H⟩:=Option.bind_eq_some_iff.mp H
     try dsimp only at H
     have A11:=Am A110
     clear A110
     by_cases c12:t414=true
     ·
      subst c12
      rw [if_pos rfl] at H
      have H':=Am H
      clear H
      obtain ⟨Ao13,co13,eo13⟩:=Kd.R_slice HO_7.out
      subst eo13
      have p413:0≤(x10_2:Int):=tD
      have q413:x10_2 < (t410.length:Int):=tD
      obtain ⟨ad413,e413,hx413_0⟩:=Kd.at_int (Kd.R_reads' HO_7.out).2.2 x10_2 p413 q413
      cases e413
      replace p413:=eq_true p413
      replace q413:=eq_true q413
      go_wp2_with (first|(go_at_call 64;(with_reducible refine (q16_blank.calls (rd t410 x10_2) true _ A11.out).mono ?_);rintro e w' ⟨rfl,⟨nd,rfl⟩⟩))
      go_roundg k2
      case measure=>have:=HK1.out;have:=HK2.out;omega
      case rel=>exact ⟨(wrap64 (x10_2+1)),TS,H',⟨by have:=HK1.out;have:=HK2.out;omega⟩,⟨RU HO_7.out⟩,⟨RU HO_8.out⟩,⟨TB⟩⟩
     replace c12:=Bool.eq_false_iff.mpr c12
     subst c12
     rw [if_neg (show ¬ (false=true) by decide)] at H
     obtain ⟨c14,H⟩:=ifS H
     have c14b0:decide (0≤x9_1)=true:=decide_eq_true c14
     clear c14
     obtain ⟨c15,H⟩:=ifS H
     have c15b0:decide (x9_1 < (l1.length:Int))=true:=decide_eq_true c15
     clear c15
     by_cases c16:x10_2=(l0.length:Int)
     ·
      rw [if_pos c16] at H
      have c16b0:(x10_2==(l0.length:Int))=true:=beq_iff_eq.mpr c16
      have c16b1:(x10_2 !=(l0.length:Int))=false:=bne_eq_false_iff_eq.mpr c16
      clear c16
      obtain ⟨c17,H⟩:=ifS H
      have LMc17:=Am c17
      clear c17
      obtain ⟨y416,hy416⟩: ∃ y_:List Int,y_=(x8_1++[a2]):=⟨_,rfl⟩
      replace H:(q16_Line.l0 k2 l0 l1 a2 t410 y416 (wrap64 (x9_1+1)))=some r:=by first|(rw [hy416];with_reducible exact H)|(have H2_:=(Option.bind_some _ _).symm.trans H;rw [hy416];with_reducible exact H2_)|(have H2_:=(Option.bind_some _ _).symm.trans H;with_reducible exact H2_)|with_reducible exact H|(rw [hy416];exact H)|exact H
      have Ny416:=Am hy416
      clear hy416
      have H':=Am H
      clear H
      obtain ⟨Ao18,co18,eo18⟩:=Kd.R_slice HO_7.out
      subst eo18
      have p413:0≤(x10_2:Int):=tD
      have q413:x10_2 < (t410.length:Int):=tD
      obtain ⟨ad413,e413,hx413_0⟩:=Kd.at_int (Kd.R_reads' HO_7.out).2.2 x10_2 p413 q413
      cases e413
      replace p413:=eq_true p413
      replace q413:=eq_true q413
      go_wp2_with (first|(go_at_call 64;(with_reducible refine (q16_blank.calls (rd t410 x10_2) false _ A11.out).mono ?_);rintro e w' ⟨rfl,⟨nd,rfl⟩⟩;have p415:0≤(x9_1:Int):=tD;have q415:x9_1 < (l1.length:Int):=tD;obtain ⟨ad415,e415,hx415_0⟩:=Kd.at_int HR1.out x9_1 p415 q415;cases e415;replace hx415_0:=cellU HB.out hx415_0;replace p415:=eq_true p415;replace q415:=eq_true q415)|((with_reducible refine gate_builtin (b:= .append) (xs:= #[.tmp 62,.tmp 64]) rfl ?_);at_builtin;refine Kd.R_append (Kd.int .i64) (w0:=w) w.heap.size rfl (.tmp 62) (.tmp 64) 23 3 (.int .i64 0) 8 rfl Try.underlying23 info3 rfl (by decide) (by omega) u8 x8_1 a2 [.int .i64 a2] (fun k_=>some k_≠(.slice (some ad413) t410.length co18:Value).ownBlock) (fun _=>False) rfl rfl ?aP (fun _ hk=>hk.elim) ?aF ?aO ?aB ?aS ?aL ?_;(case aP=>exact rfl);(case aB=>exact TB);(case aF=>exact (fun k_ hk=>Kd.fresh' (Kd.R_lt (RU HO_7.out)) k_ hk));(case aO=>exact (RU HO_8.out));(case aS=>exact (below_size TB));(case aL=>have:=LMc17.out;omega);intro v417 w19 ho hb hg hat;rw [← Ny416.out] at ho;replace HO_7:=Am (Kd.R_after (ok:=(fun _=>True)) (RU (Kd.R_mono HO_7.out (fun _ hk=>⟨trivial,hk⟩))) hg hat);have HO418:=Am (ho);replace HB:=Am (hb);clear HO_8;clear ho hb hg hat))
      go_roundg k2
      case measure=>have:=HK1.out;have:=HK2.out;omega
      case rel=>exact ⟨(y416),(wrap64 (x9_1+1)),TS,H',⟨by have:=HK1.out;have:=HK2.out;omega⟩,⟨RU (Kd.R_mono HO_7.out (fun _ hk=>hk.2))⟩,⟨RU HO418.out⟩,⟨TB⟩⟩
     rw [if_neg c16] at H
     have c16b0:(x10_2==(l0.length:Int))=false:=beq_eq_false_iff_ne.mpr c16
     have c16b1:(x10_2 !=(l0.length:Int))=true:=bne_iff_ne.mpr c16
     by_cases c20:(rd t410 x10_2)=11
     ·
      rw [if_pos c20] at H
      have c20b0:((rd t410 x10_2)==11)=true:=beq_iff_eq.mpr c20
      have c20b1:((rd t410 x10_2) !=11)=false:=bne_eq_false_iff_eq.mpr c20
      clear c20
      obtain ⟨c21,H⟩:=ifS H
      have LMc21:=Am c21
      clear c21
      obtain ⟨y420,hy420⟩: ∃ y_:List Int,y_=(x8_1++[a2]):=⟨_,rfl⟩
      replace H:(q16_Line.l0 k2 l0 l1 a2 t410 y420 (wrap64 (x9_1+1)))=some r:=by first|(rw [hy420];with_reducible exact H)|(have H2_:=(Option.bind_some _ _).symm.trans H;rw [hy420];with_reducible exact H2_)|(have H2_:=(Option.bind_some _ _).symm.trans H;with_reducible exact H2_)|with_reducible exact H|(rw [hy420];exact H)|exact H
      have Ny420:=Am hy420
      clear hy420
      have H':=Am H
      clear H
      obtain ⟨Ao22,co22,eo22⟩:=Kd.R_slice HO_7.out
      subst eo22
      have p413:0≤(x10_2:Int):=tD
      have q413:x10_2 < (t410.length:Int):=tD
      obtain ⟨ad413,e413,hx413_0⟩:=Kd.at_int (Kd.R_reads' HO_7.out).2.2 x10_2 p413 q413
      cases e413
      replace p413:=eq_true p413
      replace q413:=eq_true q413
      go_wp2_with (first|(go_at_call 64;(with_reducible refine (q16_blank.calls (rd t410 x10_2) false _ A11.out).mono ?_);rintro e w' ⟨rfl,⟨nd,rfl⟩⟩;have p415:0≤(x9_1:Int):=tD;have q415:x9_1 < (l1.length:Int):=tD;obtain ⟨ad415,e415,hx415_0⟩:=Kd.at_int HR1.out x9_1 p415 q415;cases e415;replace hx415_0:=cellU HB.out hx415_0;replace p415:=eq_true p415;replace q415:=eq_true q415;have p419:0≤(x10_2:Int):=tD;have q419:x10_2 < (t410.length:Int):=tD;obtain ⟨ad419,e419,hx419_0⟩:=Kd.at_int (Kd.R_reads' HO_7.out).2.2 x10_2 p419 q419;obtain rfl:ad413=ad419:=(by injection e419);replace p419:=eq_true p419;replace q419:=eq_true q419)|((with_reducible refine gate_builtin (b:= .append) (xs:= #[.tmp 62,.tmp 64]) rfl ?_);at_builtin;refine Kd.R_append (Kd.int .i64) (w0:=w) w.heap.size rfl (.tmp 62) (.tmp 64) 23 3 (.int .i64 0) 8 rfl Try.underlying23 info3 rfl (by decide) (by omega) u8 x8_1 a2 [.int .i64 a2] (fun k_=>some k_≠(.slice (some ad413) t410.length co22:Value).ownBlock) (fun _=>False) rfl rfl ?aP (fun _ hk=>hk.elim) ?aF ?aO ?aB ?aS ?aL ?_;(case aP=>exact rfl);(case aB=>exact TB);(case aF=>exact (fun k_ hk=>Kd.fresh' (Kd.R_lt (RU HO_7.out)) k_ hk));(case aO=>exact (RU HO_8.out));(case aS=>exact (below_size TB));(case aL=>have:=LMc21.out;omega);intro v421 w23 ho hb hg hat;rw [← Ny420.out] at ho;replace HO_7:=Am (Kd.R_after (ok:=(fun _=>True)) (RU (Kd.R_mono HO_7.out (fun _ hk=>⟨trivial,hk⟩))) hg hat);have HO422:=Am (ho);replace HB:=Am (hb);clear HO_8;clear ho hb hg hat))
      go_roundg k2
      case measure=>have:=HK1.out;have:=HK2.out;omega
      case rel=>exact ⟨(y420),(wrap64 (x9_1+1)),TS,H',⟨by have:=HK1.out;have:=HK2.out;omega⟩,⟨RU (Kd.R_mono HO_7.out (fun _ hk=>hk.2))⟩,⟨RU HO422.out⟩,⟨TB⟩⟩
     rw [if_neg c20] at H
     have c20b0:((rd t410 x10_2)==11)=false:=beq_eq_false_iff_ne.mpr c20
     have c20b1:((rd t410 x10_2) !=11)=true:=bne_iff_ne.mpr c20
     by_cases c24:(rd t410 x10_2)=10
     ·
      rw [if_pos c24] at H
      have c24b0:((rd t410 x10_2)==10)=true:=beq_iff_eq.mpr c24
      have c24b1:((rd t410 x10_2) !=10)=false:=bne_eq_false_iff_eq.mpr c24
      clear c24
      obtain ⟨c25,H⟩:=ifS H
      have LMc25:=Am c25
      clear c25
      obtain ⟨y424,hy424⟩: ∃ y_:List Int,y_=(x8_1++[a2]):=⟨_,rfl⟩
      replace H:(q16_Line.l0 k2 l0 l1 a2 t410 y424 (wrap64 (x9_1+1)))=some r:=by first|(rw [hy424];with_reducible exact H)|(have H2_:=(Option.bind_some _ _).symm.trans H;rw [hy424];with_reducible exact H2_)|(have H2_:=(Option.bind_some _ _).symm.trans H;with_reducible exact H2_)|with_reducible exact H|(rw [hy424];exact H)|exact H
      have Ny424:=Am hy424
      clear hy424
      have H':=Am H
      clear H
      obtain ⟨Ao26,co26,eo26⟩:=Kd.R_slice HO_7.out
      subst eo26
      have p413:0≤(x10_2:Int):=tD
      have q413:x10_2 < (t410.length:Int):=tD
      obtain ⟨ad413,e413,hx413_0⟩:=Kd.at_int (Kd.R_reads' HO_7.out).2.2 x10_2 p413 q413
      cases e413
      replace p413:=eq_true p413
      replace q413:=eq_true q413
      go_wp2_with (first|(go_at_call 64;(with_reducible refine (q16_blank.calls (rd t410 x10_2) false _ A11.out).mono ?_);rintro e w' ⟨rfl,⟨nd,rfl⟩⟩;have p415:0≤(x9_1:Int):=tD;have q415:x9_1 < (l1.length:Int):=tD;obtain ⟨ad415,e415,hx415_0⟩:=Kd.at_int HR1.out x9_1 p415 q415;cases e415;replace hx415_0:=cellU HB.out hx415_0;replace p415:=eq_true p415;replace q415:=eq_true q415;have p419:0≤(x10_2:Int):=tD;have q419:x10_2 < (t410.length:Int):=tD;obtain ⟨ad419,e419,hx419_0⟩:=Kd.at_int (Kd.R_reads' HO_7.out).2.2 x10_2 p419 q419;obtain rfl:ad413=ad419:=(by injection e419);replace p419:=eq_true p419;replace q419:=eq_true q419;have p423:0≤(x10_2:Int):=tD;have q423:x10_2 < (t410.length:Int):=tD;obtain ⟨ad423,e423,hx423_0⟩:=Kd.at_int (Kd.R_reads' HO_7.out).2.2 x10_2 p423 q423;obtain rfl:ad413=ad423:=(by injection e423);replace p423:=eq_true p423;replace q423:=eq_true q423)|((with_reducible refine gate_builtin (b:= .append) (xs:= #[.tmp 62,.tmp 64]) rfl ?_);at_builtin;refine Kd.R_append (Kd.int .i64) (w0:=w) w.heap.size rfl (.tmp 62) (.tmp 64) 23 3 (.int .i64 0) 8 rfl Try.underlying23 info3 rfl (by decide) (by omega) u8 x8_1 a2 [.int .i64 a2] (fun k_=>some k_≠(.slice (some ad413) t410.length co26:Value).ownBlock) (fun _=>False) rfl rfl ?aP (fun _ hk=>hk.elim) ?aF ?aO ?aB ?aS ?aL ?_;(case aP=>exact rfl);(case aB=>exact TB);(case aF=>exact (fun k_ hk=>Kd.fresh' (Kd.R_lt (RU HO_7.out)) k_ hk));(case aO=>exact (RU HO_8.out));(case aS=>exact (below_size TB));(case aL=>have:=LMc25.out;omega);intro v425 w27 ho hb hg hat;rw [← Ny424.out] at ho;replace HO_7:=Am (Kd.R_after (ok:=(fun _=>True)) (RU (Kd.R_mono HO_7.out (fun _ hk=>⟨trivial,hk⟩))) hg hat);have HO426:=Am (ho);replace HB:=Am (hb);clear HO_8;clear ho hb hg hat))
      go_roundg k2
      case measure=>have:=HK1.out;have:=HK2.out;omega
      case rel=>exact ⟨(y424),(wrap64 (x9_1+1)),TS,H',⟨by have:=HK1.out;have:=HK2.out;omega⟩,⟨RU (Kd.R_mono HO_7.out (fun _ hk=>hk.2))⟩,⟨RU HO426.out⟩,⟨TB⟩⟩
     rw [if_neg c24] at H
     have c24b0:((rd t410 x10_2)==10)=false:=beq_eq_false_iff_ne.mpr c24
     have c24b1:((rd t410 x10_2) !=10)=true:=bne_iff_ne.mpr c24
     obtain ⟨c28,H⟩:=ifS H
     have LMc28:=Am c28
     clear c28
     obtain ⟨y427,hy427⟩: ∃ y_:List Int,y_=(x8_1++[rd l1 x9_1]):=⟨_,rfl⟩
     replace H:(q16_Line.l0 k2 l0 l1 a2 t410 y427 (wrap64 (x9_1+1)))=some r:=by first|(rw [hy427];with_reducible exact H)|(have H2_:=(Option.bind_some _ _).symm.trans H;rw [hy427];with_reducible exact H2_)|(have H2_:=(Option.bind_some _ _).symm.trans H;with_reducible exact H2_)|with_reducible exact H|(rw [hy427];exact H)|exact H
     have Ny427:=Am hy427
     clear hy427
     have H':=Am H
     clear H
     obtain ⟨Ao29,co29,eo29⟩:=Kd.R_slice HO_7.out
     subst eo29
     have p413:0≤(x10_2:Int):=tD
     have q413:x10_2 < (t410.length:Int):=tD
     obtain ⟨ad413,e413,hx413_0⟩:=Kd.at_int (Kd.R_reads' HO_7.out).2.2 x10_2 p413 q413
     cases e413
     replace p413:=eq_true p413
     replace q413:=eq_true q413
     go_wp2_with (first|(go_at_call 64;(with_reducible refine (q16_blank.calls (rd t410 x10_2) false _ A11.out).mono ?_);rintro e w' ⟨rfl,⟨nd,rfl⟩⟩;have p415:0≤(x9_1:Int):=tD;have q415:x9_1 < (l1.length:Int):=tD;obtain ⟨ad415,e415,hx415_0⟩:=Kd.at_int HR1.out x9_1 p415 q415;cases e415;replace hx415_0:=cellU HB.out hx415_0;replace p415:=eq_true p415;replace q415:=eq_true q415;have p419:0≤(x10_2:Int):=tD;have q419:x10_2 < (t410.length:Int):=tD;obtain ⟨ad419,e419,hx419_0⟩:=Kd.at_int (Kd.R_reads' HO_7.out).2.2 x10_2 p419 q419;obtain rfl:ad413=ad419:=(by injection e419);replace p419:=eq_true p419;replace q419:=eq_true q419;have p423:0≤(x10_2:Int):=tD;have q423:x10_2 < (t410.length:Int):=tD;obtain ⟨ad423,e423,hx423_0⟩:=Kd.at_int (Kd.R_reads' HO_7.out).2.2 x10_2 p423 q423;obtain rfl:ad413=ad423:=(by injection e423);replace p423:=eq_true p423;replace q423:=eq_true q423)|((with_reducible refine gate_builtin (b:= .append) (xs:= #[.tmp 62,.tmp 64]) rfl ?_);at_builtin;refine Kd.R_append (Kd.int .i64) (w0:=w) w.heap.size rfl (.tmp 62) (.tmp 64) 23 3 (.int .i64 0) 8 rfl Try.underlying23 info3 rfl (by decide) (by omega) u8 x8_1 (rd l1 x9_1) [.int .i64 (rd l1 x9_1)] (fun k_=>some k_≠(.slice (some ad413) t410.length co29:Value).ownBlock) (fun _=>False) rfl rfl ?aP (fun _ hk=>hk.elim) ?aF ?aO ?aB ?aS ?aL ?_;(case aP=>exact rfl);(case aB=>exact TB);(case aF=>exact (fun k_ hk=>Kd.fresh' (Kd.R_lt (RU HO_7.out)) k_ hk));(case aO=>exact (RU HO_8.out));(case aS=>exact (below_size TB));(case aL=>have:=LMc28.out;omega);intro v428 w30 ho hb hg hat;rw [← Ny427.out] at ho;replace HO_7:=Am (Kd.R_after (ok:=(fun _=>True)) (RU (Kd.R_mono HO_7.out (fun _ hk=>⟨trivial,hk⟩))) hg hat);have HO429:=Am (ho);replace HB:=Am (hb);clear HO_8;clear ho hb hg hat))
     go_roundg k2
     case measure=>have:=HK1.out;have:=HK2.out;omega
     case rel=>exact ⟨(y427),(wrap64 (x9_1+1)),TS,H',⟨by have:=HK1.out;have:=HK2.out;omega⟩,⟨RU (Kd.R_mono HO_7.out (fun _ hk=>hk.2))⟩,⟨RU HO429.out⟩,⟨TB⟩⟩
def q19_Seen.l0:Nat→List (S40)→Int→List Int→Int→Int→Int→Int→Int→Int→List (S40)→List Int→Option ((List (S40)) × List Int)
 | 0,_,_,_,_,_,_,_,_,_,_,_=>none
 | k+1,x2,x12,x14,x15,x446000,x446001,x446002,x446003,x446004,x448000,x448001=>if x15 < x446002 then (if 0≤x15 then (if x15 < (x2.length:Int) then (if ((rd_T40 x2 x15).f4) > 0 then (if x448000.length < 2932031007402 then (if 0≤(wrap64 (((rd_T40 x2 x15).f2) - x12)) then (if (wrap64 (((rd_T40 x2 x15).f2) - x12)) < (x14.length:Int) then (if x448001.length < 17592186044416 then (q19_Seen.l0 k x2 x12 x14 (wrap64 (x15+1)) x446000 x446001 x446002 x446003 x446004 (x448000++[(⟨(rd_T40 x2 x15).f0,(rd_T40 x2 x15).f1,(rd_T40 x2 x15).f2,(rd_T40 x2 x15).f3,(rd_T40 x2 x15).f4,(rd_T40 x2 x15).f5⟩:S40)]) (x448001++[rd x14 (wrap64 (((rd_T40 x2 x15).f2) - x12))])) else (none)) else (none)) else (none)) else (none)) else (q19_Seen.l0 k x2 x12 x14 (wrap64 (x15+1)) x446000 x446001 x446002 x446003 x446004 x448000 x448001)) else (none)) else (none)) else (some (x448000,x448001))
def q19_Seen.f (k:Nat) (l0:List (S36)) (l1:List Int) (l2:List (S40)) (a3_0:Int) (a3_1:Int) (a3_2:Int) (a3_3:Int) (a3_4:Int) (a4:Int):Option ((List (S40)) × List Int):=if a3_0=a3_1 then (some (([]:List (S40)),([]:List Int))) else (if 0≤a3_0 then (if a3_0 < (l2.length:Int) then (if 0≤(wrap64 (a3_1 - 1)) then (if (wrap64 (a3_1 - 1)) < (l2.length:Int) then (if 0≤((rd_T40 l2 a3_0).f2) then (if ((rd_T40 l2 a3_0).f2)≤((rd_T40 l2 (wrap64 (a3_1 - 1))).f3) then (if ((rd_T40 l2 (wrap64 (a3_1 - 1))).f3)≤(l0.length:Int) then (if ((rd_T40 l2 (wrap64 (a3_1 - 1))).f3)≤(l1.length:Int) then ((q16_Line.f k ((l0.take (((rd_T40 l2 (wrap64 (a3_1 - 1))).f3):Int).toNat).drop (((rd_T40 l2 a3_0).f2):Int).toNat) ((l1.take (((rd_T40 l2 (wrap64 (a3_1 - 1))).f3):Int).toNat).drop (((rd_T40 l2 a3_0).f2):Int).toNat) a4).bind fun t455=>(q19_Seen.l0 k l2 ((rd_T40 l2 a3_0).f2) t455 a3_0 a3_0 a3_1 a3_2 a3_3 a3_4 ([]:List (S40)) ([]:List Int))) else (none)) else (none)) else (none)) else (none)) else (none)) else (none)) else (none)) else (none))
theorem q19_Seen.mono_l: ∀ k,(∀ y0 y1 y2 y3 y4 y5 y6 y7 y8 y9 y10,LeO (q19_Seen.l0 k y0 y1 y2 y3 y4 y5 y6 y7 y8 y9 y10) (q19_Seen.l0 (k+1) y0 y1 y2 y3 y4 y5 y6 y7 y8 y9 y10))
 | 0=>fun _ _ _ _ _ _ _ _ _ _ _ r h=>by simp [q19_Seen.l0] at h
 | k+1=>by
  have ih0:=q19_Seen.mono_l k
  ·
   intros
   unfold q19_Seen.l0
   have j0:=@q16_Line.mono
   exact TL
theorem q19_Seen.mono: ∀ a0 a1 a2 a3 a4 a5 a6 a7 a8 k,LeO (q19_Seen.f k a0 a1 a2 a3 a4 a5 a6 a7 a8) (q19_Seen.f (k+1) a0 a1 a2 a3 a4 a5 a6 a7 a8):=by
 intro a0 a1 a2 a3 a4 a5 a6 a7 a8 k
 have ih0:=q19_Seen.mono_l k
 unfold q19_Seen.f
 repeat' first
   | (with_reducible exact ih0 _ _ _ _ _ _ _ _ _ _ _)
   | (with_reducible exact q16_Line.mono _ _ _ _)
   | (with_reducible exact LeO.refl _)
   | (with_reducible exact LeO.none _)
   | (with_reducible refine LeO.ite ?_ ?_)
   | (with_reducible refine LeO.bind ?_ (fun _=>?_))
def q19_Seen.T4:Bool × List (List Nat × List Nat):=(true,[([],[]),([],[]),([1],[1]),([0,2],[0,2]),([3],[3]),([4],[4]),([],[]),([],[]),([7],[7]),([8],[8]),([6,9],[6,9]),([10],[10]),([11],[11]),([5,0,1,2,3,4,5],[5]),([12,13,0,1,2,3,4,5,6,7,8,9,10,11,12,13],[12])])
def q19_Seen.B4:List Nat:=[0,0,2,7,15,31,0,0,128,384,960,1984,4032,63,16383]
theorem q19_Seen.tab4:rtab .any (opsOf Try.f24 4)=q19_Seen.T4:=by kernel_rfl
theorem q19_Seen.bits4:waitsOk q19_Seen.T4.2 q19_Seen.B4=true:=by kernel_rfl
def q19_Seen.T5:Bool × List (List Nat × List Nat):=(true,[([],[]),([],[]),([],[]),([0,1,2],[0,1,2]),([],[]),([],[]),([],[]),([4,5,6],[4,5,6]),([],[]),([3,7,8],[3,7,8]),([9,9,0,1,2,3,4,5,6,7,8,9],[9])])
def q19_Seen.B5:List Nat:=[0,0,0,7,0,0,0,112,0,511,1023]
theorem q19_Seen.tab5:rtab .any (opsOf Try.f24 5)=q19_Seen.T5:=by kernel_rfl
theorem q19_Seen.bits5:waitsOk q19_Seen.T5.2 q19_Seen.B5=true:=by kernel_rfl
def q19_Seen.T10:Bool × List (List Nat × List Nat):=(true,[([],[]),([0],[0]),([],[]),([],[]),([2,3],[2,3]),([4],[4]),([5],[5]),([1,6],[1,6]),([0,1,2,3,4,5,6,7],[]),([8,7,7,0,1,2,3,4,5,6,7],[7,8])])
def q19_Seen.B10:List Nat:=[0,1,0,0,12,28,60,127,255,511]
theorem q19_Seen.tab10:rtab .any (opsOf Try.f24 10)=q19_Seen.T10:=by kernel_rfl
theorem q19_Seen.bits10:waitsOk q19_Seen.T10.2 q19_Seen.B10=true:=by kernel_rfl
def q19_Seen.T11:Bool × List (List Nat × List Nat):=(true,[([],[]),([0],[0]),([],[]),([],[]),([],[]),([3,4],[3,4]),([5],[5]),([6],[6]),([],[]),([7,8],[7,8]),([2,9],[2,9]),([10],[10]),([11],[11]),([1,12],[1,12]),([0,1,2,3,4,5,6,7,8,9,10,11,12,13],[]),([14,13,13,0,1,2,3,4,5,6,7,8,9,10,11,12,13],[13,14])])
def q19_Seen.B11:List Nat:=[0,1,0,0,0,24,56,120,0,504,1020,2044,4092,8191,16383,32767]
theorem q19_Seen.tab11:rtab .any (opsOf Try.f24 11)=q19_Seen.T11:=by kernel_rfl
theorem q19_Seen.bits11:waitsOk q19_Seen.T11.2 q19_Seen.B11=true:=by kernel_rfl
set_option maxHeartbeats 8000000 in
theorem q19_Seen.calls (k:Nat) (A0:Option Addr) (c0:Nat) (l0:List (S36)) (A1:Option Addr) (c1:Nat) (l1:List Int) (A2:Option Addr) (c2:Nat) (l2:List (S40)) (a3_0:Int) (a3_1:Int) (a3_2:Int) (a3_3:Int) (a3_4:Int) (a4:Int) (r1:List (S40)) (r2:List Int) (w:World) (hr0:Kd.C k36 w A0 l0.length l0) (hc0:l0.length≤c0) (hr1:Kd.C (Kd.int .i64) w A1 l1.length l1) (hc1:l1.length≤c1) (hr2:Kd.C k40 w A2 l2.length l2) (hc2:l2.length≤c2) (h:q19_Seen.f k l0 l1 l2 a3_0 a3_1 a3_2 a3_3 a3_4 a4=some (r1,r2)) :
  Calls Try.prog 24 #[.slice A0 l0.length c0,.slice A1 l1.length c1,.slice A2 l2.length c2,.agg #[.int .i64 a3_0,.int .i64 a3_1,.int .i64 a3_2,.int .i64 a3_3,.int .i64 a3_4],.int .i64 a4] w fun e w'=> ∃ v0_ v1_:Value,e= .returned (.agg #[v0_,v1_])∧Kd.R k40 40 w' w.heap.size (fun _=>True) v0_ r1∧Kd.R (Kd.int .i64) 3 w' w.heap.size (fun _=>True) v1_ r2∧Below w.heap.size w w':=by
 have hu25:=Try.underlying25
 have hu59:=Try.underlying59
 have hu40:=Try.underlying40
 have HR0:=Am hr0
 have HC0:=Am hc0
 clear hr0 hc0
 have HR1:=Am hr1
 have HC1:=Am hc1
 clear hr1 hc1
 have HR2:=Am hr2
 have HC2:=Am hc2
 clear hr2 hc2
 have HB:=Am (Below.refl w.heap.size w)
 have H:(if a3_0=a3_1 then (some (([]:List (S40)),([]:List Int))) else (if 0≤a3_0 then (if a3_0 < (l2.length:Int) then (if 0≤(wrap64 (a3_1 - 1)) then (if (wrap64 (a3_1 - 1)) < (l2.length:Int) then (if 0≤((rd_T40 l2 a3_0).f2) then (if ((rd_T40 l2 a3_0).f2)≤((rd_T40 l2 (wrap64 (a3_1 - 1))).f3) then (if ((rd_T40 l2 (wrap64 (a3_1 - 1))).f3)≤(l0.length:Int) then (if ((rd_T40 l2 (wrap64 (a3_1 - 1))).f3)≤(l1.length:Int) then ((q16_Line.f k ((l0.take (((rd_T40 l2 (wrap64 (a3_1 - 1))).f3):Int).toNat).drop (((rd_T40 l2 a3_0).f2):Int).toNat) ((l1.take (((rd_T40 l2 (wrap64 (a3_1 - 1))).f3):Int).toNat).drop (((rd_T40 l2 a3_0).f2):Int).toNat) a4).bind fun t455=>(q19_Seen.l0 k l2 ((rd_T40 l2 a3_0).f2) t455 a3_0 a3_0 a3_1 a3_2 a3_3 a3_4 ([]:List (S40)) ([]:List Int))) else (none)) else (none)) else (none)) else (none)) else (none)) else (none)) else (none)) else (none)))=some (r1,r2):=h
 clear h
 by_cases c6:a3_0=a3_1
 ·
  rw [if_pos c6] at H
  have c6b0:(a3_0==a3_1)=true:=beq_iff_eq.mpr c6
  have c6b1:(a3_0 !=a3_1)=false:=bne_eq_false_iff_eq.mpr c6
  clear c6
  simp only [Option.some.injEq,Prod.mk.injEq] at H
  obtain ⟨rfl,rfl⟩:=H
  go_enter Try.func24,Try.ntmps24
  try dsimp only [List.append]
  go_wp2_with (first|((with_reducible refine gate_dst (N:=8) rfl ?_);refine box_event ?hg (N:=8) ?hd (cs:= #[.int .i64 a3_0,.int .i64 a3_1,.int .i64 a3_2,.int .i64 a3_3,.int .i64 a3_4]) (t:=25) ?hr ?_;(case hd=>rfl);(case hg=>rfl);(case hr=>exact TG);intro gb445 hg w7 hbox hb;have BK445:=Am (hbox);have GW445:=Am (gwS hg);have GE445:=Am (gwS hg);replace HB:=Am (below_step TB hb);clear hb hbox hg)|((with_reducible refine gate_dst (N:=10) rfl ?_);refine box_event ?hg (N:=10) ?hd (cs:= #[.slice none 0 0,.slice none 0 0]) (t:=59) ?hr ?_;(case hd=>rfl);(case hg=>rfl);(case hr=>exact TG);intro gb446 hg w8 hbox hb;have BK446:=Am (hbox);have GW446:=Am (gwS hg);have GE446:=Am (gwS hg);have NB445_446:=Am (ltS hg (blkU BK445.out));have NB446_445:=Am (gtS hg (blkU BK445.out));replace BK445:=Am (blk_below (blkU BK445.out) hb);replace HB:=Am (below_step TB hb);clear hb hbox hg)|((with_reducible refine gate_dst (N:=11) rfl ?_);refine box_event ?hg (N:=11) ?hd (cs:= #[.slice none 0 0,.slice none 0 0]) (t:=59) ?hr ?_;(case hd=>rfl);(case hg=>rfl);(case hr=>exact TG);intro gb447 hg w9 hbox hb;have BK447:=Am (hbox);have GW447:=Am (gwS hg);have GE447:=Am (gwS hg);have NB445_447:=Am (ltS hg (blkU BK445.out));have NB447_445:=Am (gtS hg (blkU BK445.out));replace BK445:=Am (blk_below (blkU BK445.out) hb);have NB446_447:=Am (ltS hg (blkU BK446.out));have NB447_446:=Am (gtS hg (blkU BK446.out));replace BK446:=Am (blk_below (blkU BK446.out) hb);replace HB:=Am (below_step TB hb);clear hb hbox hg;have hnb10:=NB445_446.out;have hnc10:=NB446_445.out;have hnb11:=NB445_447.out;have hnc11:=NB447_445.out;obtain ⟨hcz12_0,hcz12_1,hcz12_2,hcz12_3,hcz12_4⟩:=blkC5 BK445.out;obtain ⟨hfz12_0,hfz12_1,hfz12_2,hfz12_3,hfz12_4⟩:=blkF5 BK445.out;have hnb13:=NB447_446.out;have hnc13:=NB446_447.out;obtain ⟨hcz14_0,hcz14_1⟩:=blkC2 BK447.out;obtain ⟨hfz14_0,hfz14_1⟩:=blkF2 BK447.out;obtain ⟨hcz15_0,hcz15_1⟩:=blkC2 BK446.out;obtain ⟨hfz15_0,hfz15_1⟩:=blkF2 BK446.out))
  refine bodyPost_ret (results_cell_row rfl _ _ gb446 59 #[.slice none 0 0,.slice none 0 0] (0,0) _ rfl (by refine blk_put (cs:= #[.slice none 0 0,.slice none 0 0]) ?_ 1 _ rfl;refine blk_put (cs:= #[.slice none 0 0,.slice none 0 0]) ?_ 0 _ rfl;exact BK446.out) Try.underlying59 rfl TK) rfl ?_
  exact ⟨_,_,TE,by first|exact Kd.R_nil _ _ _ _ _|exact Kd.N_nil _ _ _ _ _|exact Kd.V_nil _ _ _ _ _|exact Kd.Q_nil _ _ _ _ _|exact Kd.S_nil _ _ _ _ _,by first|exact Kd.R_nil _ _ _ _ _|exact Kd.N_nil _ _ _ _ _|exact Kd.V_nil _ _ _ _ _|exact Kd.Q_nil _ _ _ _ _|exact Kd.S_nil _ _ _ _ _,TB⟩
 rw [if_neg c6] at H
 have c6b0:(a3_0==a3_1)=false:=beq_eq_false_iff_ne.mpr c6
 have c6b1:(a3_0 !=a3_1)=true:=bne_iff_ne.mpr c6
 obtain ⟨c16,H⟩:=ifS H
 have c16b0:decide (0≤a3_0)=true:=decide_eq_true c16
 clear c16
 obtain ⟨c17,H⟩:=ifS H
 have c17b0:decide (a3_0 < (l2.length:Int))=true:=decide_eq_true c17
 clear c17
 obtain ⟨ji18,hji18⟩: ∃ j_:Int,(wrap64 (a3_1 - 1))=j_:=⟨_,rfl⟩
 replace H:(if 0≤(ji18) then (if (ji18) < (l2.length:Int) then (if 0≤((rd_T40 l2 a3_0).f2) then (if ((rd_T40 l2 a3_0).f2)≤((rd_T40 l2 (ji18)).f3) then (if ((rd_T40 l2 (ji18)).f3)≤(l0.length:Int) then (if ((rd_T40 l2 (ji18)).f3)≤(l1.length:Int) then ((q16_Line.f k ((l0.take (((rd_T40 l2 (ji18)).f3):Int).toNat).drop (((rd_T40 l2 a3_0).f2):Int).toNat) ((l1.take (((rd_T40 l2 (ji18)).f3):Int).toNat).drop (((rd_T40 l2 a3_0).f2):Int).toNat) a4).bind fun t455=>(q19_Seen.l0 k l2 ((rd_T40 l2 a3_0).f2) t455 a3_0 a3_0 a3_1 a3_2 a3_3 a3_4 ([]:List (S40)) ([]:List Int))) else (none)) else (none)) else (none)) else (none)) else (none)) else (none))=some (r1,r2):=by first|(rw [hji18] at H;exact H)|(simp only [hji18] at H ⊢;exact H)
 have hji18w:(IntKind.i64.wrap (a3_1 - 1))=ji18:=(i64_w _).trans hji18
 obtain ⟨c19,H⟩:=ifS H
 have c19b0:decide (0≤(ji18))=true:=decide_eq_true c19
 clear c19
 obtain ⟨c20,H⟩:=ifS H
 have c20b0:decide ((ji18) < (l2.length:Int))=true:=decide_eq_true c20
 clear c20
 obtain ⟨c21,H⟩:=ifS H
 have c21b0:=eq_true c21
 have c21b1:decide (0≤((rd_T40 l2 a3_0).f2))=true:=decide_eq_true c21
 clear c21
 obtain ⟨c22,H⟩:=ifS H
 have c22b0:=eq_true c22
 have c22b1:decide (((rd_T40 l2 a3_0).f2)≤((rd_T40 l2 (ji18)).f3))=true:=decide_eq_true c22
 clear c22
 obtain ⟨c23,H⟩:=ifS H
 have c23b0:=eq_true c23
 have c23b1:decide (((rd_T40 l2 (ji18)).f3)≤(l0.length:Int))=true:=decide_eq_true c23
 clear c23
 obtain ⟨y450,hy450⟩: ∃ y_:List (S36),y_=((l0.take (((rd_T40 l2 (ji18)).f3):Int).toNat).drop (((rd_T40 l2 a3_0).f2):Int).toNat):=⟨_,rfl⟩
 replace H:(if ((rd_T40 l2 (ji18)).f3)≤(l1.length:Int) then ((q16_Line.f k y450 ((l1.take (((rd_T40 l2 (ji18)).f3):Int).toNat).drop (((rd_T40 l2 a3_0).f2):Int).toNat) a4).bind fun t455=>(q19_Seen.l0 k l2 ((rd_T40 l2 a3_0).f2) t455 a3_0 a3_0 a3_1 a3_2 a3_3 a3_4 ([]:List (S40)) ([]:List Int))) else (none))=some (r1,r2):=by first|(rw [hy450];with_reducible exact H)|(have H2_:=(Option.bind_some _ _).symm.trans H;rw [hy450];with_reducible exact H2_)|(have H2_:=(Option.bind_some _ _).symm.trans H;with_reducible exact H2_)|with_reducible exact H|(rw [hy450];exact H)|exact H
 have Ny450:=Am hy450
 clear hy450
 have c24b0:=eq_true (tD:0≤((rd_T40 l2 a3_0).f2))
 have c25b0:=eq_true (tD:((rd_T40 l2 a3_0).f2)≤((rd_T40 l2 (ji18)).f3))
 obtain ⟨c26,H⟩:=ifS H
 have c26b0:=eq_true c26
 have c26b1:decide (((rd_T40 l2 (ji18)).f3)≤(l1.length:Int))=true:=decide_eq_true c26
 clear c26
 obtain ⟨t455,A270,H⟩:=Option.bind_eq_some_iff.mp H
 try dsimp only at H
 have A27:=Am A270
 clear A270
 have H':=Am H
 clear H
 go_enter Try.func24,Try.ntmps24
 try dsimp only [List.append]
 try go_wp2_with (first|((with_reducible refine gate_dst (N:=8) rfl ?_);refine box_event ?hg (N:=8) ?hd (cs:= #[.int .i64 a3_0,.int .i64 a3_1,.int .i64 a3_2,.int .i64 a3_3,.int .i64 a3_4]) (t:=25) ?hr ?_;(case hd=>rfl);(case hg=>rfl);(case hr=>exact TG);intro gb445 hg w28 hbox hb;have BK445:=Am (hbox);have GW445:=Am (gwS hg);have GE445:=Am (gwS hg);replace HB:=Am (below_step TB hb);clear hb hbox hg)|((with_reducible refine gate_dst (N:=10) rfl ?_);refine box_event ?hg (N:=10) ?hd (cs:= #[.slice none 0 0,.slice none 0 0]) (t:=59) ?hr ?_;(case hd=>rfl);(case hg=>rfl);(case hr=>exact TG);intro gb446 hg w29 hbox hb;have BK446:=Am (hbox);have GW446:=Am (gwS hg);have GE446:=Am (gwS hg);have NB445_446:=Am (ltS hg (blkU BK445.out));have NB446_445:=Am (gtS hg (blkU BK445.out));replace BK445:=Am (blk_below (blkU BK445.out) hb);replace HB:=Am (below_step TB hb);clear hb hbox hg)|((with_reducible refine gate_dst (N:=11) rfl ?_);refine box_event ?hg (N:=11) ?hd (cs:= #[.slice none 0 0,.slice none 0 0]) (t:=59) ?hr ?_;(case hd=>rfl);(case hg=>rfl);(case hr=>exact TG);intro gb447 hg w30 hbox hb;have BK447:=Am (hbox);have GW447:=Am (gwS hg);have GE447:=Am (gwS hg);have NB445_447:=Am (ltS hg (blkU BK445.out));have NB447_445:=Am (gtS hg (blkU BK445.out));replace BK445:=Am (blk_below (blkU BK445.out) hb);have NB446_447:=Am (ltS hg (blkU BK446.out));have NB447_446:=Am (gtS hg (blkU BK446.out));replace BK446:=Am (blk_below (blkU BK446.out) hb);replace HB:=Am (below_step TB hb);clear hb hbox hg;have hnb31:=NB445_446.out;have hnc31:=NB446_445.out;have hnb32:=NB445_447.out;have hnc32:=NB447_445.out;obtain ⟨hcz33_0,hcz33_1,hcz33_2,hcz33_3,hcz33_4⟩:=blkC5 BK445.out;obtain ⟨hfz33_0,hfz33_1,hfz33_2,hfz33_3,hfz33_4⟩:=blkF5 BK445.out))
 replace BK445:=Am (blk_drew BK445.out)
 replace BK446:=Am (blk_drew BK446.out)
 replace BK447:=Am (blk_drew BK447.out)
 replace HB:=Am (below_drew1 HB.out)
 have p448:0≤(a3_0:Int):=tD
 have q448:a3_0 < (l2.length:Int):=tD
 obtain ⟨ad448,e448,hx448_0,hx448_1,hx448_2,hx448_3,hx448_4,hx448_5⟩:=at_T40 HR2.out a3_0 p448 q448
 have hw448_5:=hx448_5
 have hw448_4:=hx448_4
 have hw448_3:=hx448_3
 have hw448_2:=hx448_2
 have hw448_1:=hx448_1
 have hw448_0:=hx448_0
 cases e448
 replace hx448_0:=cellU HB.out hx448_0
 replace hx448_1:=cellU HB.out hx448_1
 replace hx448_2:=cellU HB.out hx448_2
 replace hx448_3:=cellU HB.out hx448_3
 replace hx448_4:=cellU HB.out hx448_4
 replace hx448_5:=cellU HB.out hx448_5
 replace p448:=eq_true p448
 replace q448:=eq_true q448
 have p449:0≤((ji18):Int):=tD
 have q449:(ji18) < (l2.length:Int):=tD
 obtain ⟨ad449,e449,hx449_0,hx449_1,hx449_2,hx449_3,hx449_4,hx449_5⟩:=at_T40 HR2.out (ji18) p449 q449
 have hw449_5:=hx449_5
 have hw449_4:=hx449_4
 have hw449_3:=hx449_3
 have hw449_2:=hx449_2
 have hw449_1:=hx449_1
 have hw449_0:=hx449_0
 obtain rfl:ad448=ad449:=(by injection e449)
 replace hx449_0:=cellU HB.out hx449_0
 replace hx449_1:=cellU HB.out hx449_1
 replace hx449_2:=cellU HB.out hx449_2
 replace hx449_3:=cellU HB.out hx449_3
 replace hx449_4:=cellU HB.out hx449_4
 replace hx449_5:=cellU HB.out hx449_5
 replace p449:=eq_true p449
 replace q449:=eq_true q449
 refine start_ (n:=15) (S:=fun w'=>w'.cell? ⟨gb445,0,none⟩=some (.int .i64 a3_0)∧w'.cell? ⟨gb445,1,none⟩=some (.int .i64 a3_1)∧w'.cell? ⟨gb445,2,none⟩=some (.int .i64 a3_2)∧w'.cell? ⟨gb445,3,none⟩=some (.int .i64 a3_3)∧w'.cell? ⟨gb445,4,none⟩=some (.int .i64 a3_4)∧w'.cell? (ad448.add ((a3_0).toNat * 6))=some (.int .i64 ((rd_T40 l2 a3_0).f0))∧w'.cell? ⟨(ad448.add ((a3_0).toNat * 6)).block,(ad448.add ((a3_0).toNat * 6)).off+1,none⟩=some (.int .i64 ((rd_T40 l2 a3_0).f1))∧w'.cell? ⟨(ad448.add ((a3_0).toNat * 6)).block,(ad448.add ((a3_0).toNat * 6)).off+2,none⟩=some (.int .i64 ((rd_T40 l2 a3_0).f2))∧w'.cell? ⟨(ad448.add ((a3_0).toNat * 6)).block,(ad448.add ((a3_0).toNat * 6)).off+3,none⟩=some (.int .i64 ((rd_T40 l2 a3_0).f3))∧w'.cell? ⟨(ad448.add ((a3_0).toNat * 6)).block,(ad448.add ((a3_0).toNat * 6)).off+4,none⟩=some (.int .i64 ((rd_T40 l2 a3_0).f4))∧w'.cell? ⟨(ad448.add ((a3_0).toNat * 6)).block,(ad448.add ((a3_0).toNat * 6)).off+5,none⟩=some (.int .i64 ((rd_T40 l2 a3_0).f5))∧w'.cell? (ad448.add (((ji18)).toNat * 6))=some (.int .i64 ((rd_T40 l2 (ji18)).f0))∧w'.cell? ⟨(ad448.add (((ji18)).toNat * 6)).block,(ad448.add (((ji18)).toNat * 6)).off+1,none⟩=some (.int .i64 ((rd_T40 l2 (ji18)).f1))∧w'.cell? ⟨(ad448.add (((ji18)).toNat * 6)).block,(ad448.add (((ji18)).toNat * 6)).off+2,none⟩=some (.int .i64 ((rd_T40 l2 (ji18)).f2))∧w'.cell? ⟨(ad448.add (((ji18)).toNat * 6)).block,(ad448.add (((ji18)).toNat * 6)).off+3,none⟩=some (.int .i64 ((rd_T40 l2 (ji18)).f3))∧w'.cell? ⟨(ad448.add (((ji18)).toNat * 6)).block,(ad448.add (((ji18)).toNat * 6)).off+4,none⟩=some (.int .i64 ((rd_T40 l2 (ji18)).f4))∧w'.cell? ⟨(ad448.add (((ji18)).toNat * 6)).block,(ad448.add (((ji18)).toNat * 6)).off+5,none⟩=some (.int .i64 ((rd_T40 l2 (ji18)).f5))) (ds:=[]) (bl 15 0) TK rfl rfl ⟨(blk_cell BK445.out 0).trans rfl,(blk_cell BK445.out 1).trans rfl,(blk_cell BK445.out 2).trans rfl,(blk_cell BK445.out 3).trans rfl,(blk_cell BK445.out 4).trans rfl,(cellU HB.out hw448_0),(cellU HB.out hw448_1),(cellU HB.out hw448_2),(cellU HB.out hw448_3),(cellU HB.out hw448_4),(cellU HB.out hw448_5),(cellU HB.out hw449_0),(cellU HB.out hw449_1),(cellU HB.out hw449_2),(cellU HB.out hw449_3),(cellU HB.out hw449_4),(cellU HB.out hw449_5)⟩ (fun hHeld=>?_);refine with_tabW q19_Seen.tab4 q19_Seen.bits4 (fun HT_ HW_=>?_)
 generalize w30.drew=w34 at BK445 BK446 BK447 HB hx448_0 hx448_1 hx448_2 hx448_3 hx448_4 hx448_5 hx449_0 hx449_1 hx449_2 hx449_3 hx449_4 hx449_5 hHeld ⊢
 refine pureS (i:=0) (N:=some 22) (bl 15 1) rfl rfl (any_of HT_.out TK) ?_
 refine pureS (i:=1) (N:=some 23) (bl 15 3) rfl rfl (any_of HT_.out TK) ?_
 refine pureS (i:=6) (N:=some 28) (bl 15 67) rfl rfl (any_of HT_.out TK) ?_
 refine pureS (i:=7) (N:=some 29) (bl 15 195) rfl rfl (any_of HT_.out TK) ?_
 refine take_ (i:=2) (N:=some 24) (v:=?_) (a':=?_) (bl 15 199) rfl rfl (take_ofW HT_.out HW_.out TK) (fun _ _ _ h=>h) (Or.inl ⟨by rfl,?_⟩) hHeld ?_ ?_
 rotate_left
 ·
  rintro w' ⟨s0,s1,s2,s3,s4,s5,s6,s7,s8,s9,s10,s11,s12,s13,s14,s15,s16⟩
  go_simp
  with_reducible rfl
 rotate_left
 ·
  simp only [PT]
  rfl
 refine pureS (i:=3) (N:=some 25) (bl 15 207) rfl rfl (any_of HT_.out TK) ?_
 refine pureS (i:=4) (N:=some 26) (bl 15 223) rfl rfl (any_of HT_.out TK) ?_
 refine take_ (i:=5) (N:=some 27) (v:=?_) (a':=?_) (bl 15 255) rfl rfl (take_ofW HT_.out HW_.out TK) (fun _ _ _ h=>h) (Or.inl ⟨by rfl,?_⟩) hHeld ?_ ?_
 rotate_left
 ·
  rintro w' ⟨s0,s1,s2,s3,s4,s5,s6,s7,s8,s9,s10,s11,s12,s13,s14,s15,s16⟩
  go_simp
  with_reducible rfl
 rotate_left
 ·
  simp only [PT]
  rfl
 refine pureS (i:=13) (N:=some 12) (bl 15 8447) rfl rfl (any_of HT_.out TK) ?_
 refine take_ (i:=8) (N:=some 30) (v:=?_) (a':=?_) (bl 15 8703) rfl rfl (take_ofW HT_.out HW_.out TK) (fun _ _ _ h=>h) (Or.inl ⟨by rfl,?_⟩) hHeld ?_ ?_
 rotate_left
 ·
  rintro w' ⟨s0,s1,s2,s3,s4,s5,s6,s7,s8,s9,s10,s11,s12,s13,s14,s15,s16⟩
  go_simp
  with_reducible rfl
 rotate_left
 ·
  simp only [PT]
  rfl
 refine pureS (i:=9) (N:=some 31) (bl 15 9215) rfl rfl (any_of HT_.out TK) ?_
 refine pureS (i:=10) (N:=some 32) (bl 15 10239) rfl rfl (any_of HT_.out TK) ?_
 refine pureS (i:=11) (N:=some 33) (bl 15 12287) rfl rfl (any_of HT_.out TK) ?_
 refine take_ (i:=12) (N:=some 34) (v:=?_) (a':=?_) (bl 15 16383) rfl rfl (take_ofW HT_.out HW_.out TK) (fun _ _ _ h=>h) (Or.inl ⟨by rfl,?_⟩) hHeld ?_ ?_
 rotate_left
 ·
  rintro w' ⟨s0,s1,s2,s3,s4,s5,s6,s7,s8,s9,s10,s11,s12,s13,s14,s15,s16⟩
  go_simp
  with_reducible rfl
 rotate_left
 ·
  simp only [PT]
  rfl
 refine pureS (i:=14) (N:=some 13) (bl 15 32767) rfl rfl (any_of HT_.out TK) ?_
 refine done_ (done_of HT_.out TK) ?_
 try go_wp2
 replace BK445:=Am (blk_drew BK445.out)
 replace BK446:=Am (blk_drew BK446.out)
 replace BK447:=Am (blk_drew BK447.out)
 replace HB:=Am (below_drew1 HB.out)
 have q36:(((rd_T40 l2 (ji18)).f3):Int)≤((l0.length:Int):Int):=tD
 obtain ⟨i036,hi036,_,hsz36,_⟩:=info_parts info36
 have hroom36:l0.length≤c0:=HC0.out
 have hC36:Kd.C k36 _ A0 l0.length l0:=HR0.out
 have ql36:(((rd_T40 l2 a3_0).f2):Int)≤(((rd_T40 l2 (ji18)).f3):Int):=tD
 have q036:(0:Int)≤(((rd_T40 l2 a3_0).f2):Int):=tD
 have hcut36:=cut_mid (P:=Try.prog) 22 36 .i64 .i64 Try.underlying22 hi036 3 hsz36 A0 l0.length c0 ((rd_T40 l2 a3_0).f2) ((rd_T40 l2 (ji18)).f3) q036 ql36 q36 hroom36
 have hr36:=Kd.C_mid (lo:=(((rd_T40 l2 a3_0).f2):Int).toNat) (hi:=(((rd_T40 l2 (ji18)).f3):Int).toNat) (c:=c0) hC36 (by omega) (by omega) hroom36
 obtain ⟨A36,hA36⟩: ∃ A1,A1=(if c0=(((rd_T40 l2 a3_0).f2):Int).toNat then A0 else (A0:Option Addr).map (·.add ((((rd_T40 l2 a3_0).f2):Int).toNat * 3))):=⟨_,rfl⟩
 obtain ⟨c36,hc36⟩: ∃ c1,c1=c0 - (((rd_T40 l2 a3_0).f2):Int).toNat:=⟨_,rfl⟩
 have hy36:y450.length=(((rd_T40 l2 (ji18)).f3):Int).toNat - (((rd_T40 l2 a3_0).f2):Int).toNat:=(by rw [Ny450.out,List.length_drop,List.length_take] <;> omega)
 rw [show ((l0).take (((rd_T40 l2 (ji18)).f3):Int).toNat).drop (((rd_T40 l2 a3_0).f2):Int).toNat=y450 from Ny450.out.symm] at hr36
 replace hr36:Kd.C k36 _ A36 y450.length y450:=(by rw [hA36];exact hr36)
 rw [← hy36,← hA36,← hc36] at hcut36
 have HR453:=Am hr36
 have HC453:=Am (show y450.length≤c36 from by rw [hy36,hc36];exact Nat.sub_le_sub_right (Nat.le_trans (by omega) hroom36) _)
 clear hr36 hC36 hroom36 hi036 hsz36 hc36
 have KY36:=Am hy36
 have KA36:=Am hA36
 clear hy36 hA36
 replace q36:=eq_true q36
 obtain ⟨i037,hi037,_,hsz37,_⟩:=info_parts info3
 obtain ⟨A37,hcut37,hA37,hC37⟩:=print_mid_of (P:=Try.prog) (Value.int .i64) 0 23 3 .i64 .i64 Try.underlying23 hi037 hsz37 A1 c1 l1 ((rd_T40 l2 a3_0).f2) ((rd_T40 l2 (ji18)).f3) (tD) (by first|omega|exact tD) (tD) HC1.out
 have HR454:=Am (Kd.C_of_reads (h1:=fun _=>rfl) (hA37 _ (Kd.reads_of_C HR1.out)))
 have HC454:=Am hC37
 clear hA37 hC37 hi037 hsz37
 refine start_ (n:=11) (S:=fun w'=>True) (ds:=[]) (bl 11 0) TK rfl rfl trivial (fun hHeld=>?_);refine with_tabW q19_Seen.tab5 q19_Seen.bits5 (fun HT_ HW_=>?_)
 generalize w34.drew=w35 at BK445 BK446 BK447 HB HR453 HR454 hHeld ⊢
 refine pureS (i:=0) (N:=some 35) (bl 11 1) rfl rfl (any_of HT_.out TK) ?_
 refine pureS (i:=1) (N:=some 36) (bl 11 3) rfl rfl (any_of HT_.out TK) ?_
 refine pureS (i:=2) (N:=some 37) (bl 11 7) rfl rfl (any_of HT_.out TK) ?_
 refine pureS (i:=3) (N:=some 38) (bl 11 15) rfl rfl (any_of HT_.out TK) ?_
 refine pureS (i:=4) (N:=some 39) (bl 11 31) rfl rfl (any_of HT_.out TK) ?_
 refine pureS (i:=5) (N:=some 40) (bl 11 63) rfl rfl (any_of HT_.out TK) ?_
 refine pureS (i:=6) (N:=some 41) (bl 11 127) rfl rfl (any_of HT_.out TK) ?_
 refine pureS (i:=7) (N:=some 42) (bl 11 255) rfl rfl (any_of HT_.out TK) ?_
 refine pureS (i:=8) (N:=some 43) (bl 11 511) rfl rfl (any_of HT_.out TK) ?_
 refine one_ (i:=9) (N:=some 44) (bl 11 1023) rfl rfl (one_of HT_.out TK) (by decide) (fun K hK=>?_)
 refine goes_ Try.func42 TK rfl #[.slice A36 y450.length c36,.slice A37 ((l1.take (((rd_T40 l2 (ji18)).f3):Int).toNat).drop (((rd_T40 l2 a3_0).f2):Int).toNat).length (c1 - ((rd_T40 l2 a3_0).f2).toNat),.int .i64 a4] (by rfl) rfl rfl (by (try simp only [List.map_toArray,List.map_cons,List.map_nil]);first|done|(rw [show ((l1.take (((rd_T40 l2 (ji18)).f3):Int).toNat).drop (((rd_T40 l2 a3_0).f2):Int).toNat).length=(((rd_T40 l2 (ji18)).f3).toNat - ((rd_T40 l2 a3_0).f2).toNat) from (by rw [List.length_drop,List.length_take];have h_:(((rd_T40 l2 (ji18)).f3):Int)≤(l1.length:Int):=tD;omega)] <;> rfl)|(simp only [hji18];rfl)|rfl|(simp only [List.length_drop,List.length_take];rfl)) ?_
 with_reducible refine (q16_Line.calls k _ _ y450 _ _ ((l1.take (((rd_T40 l2 (ji18)).f3):Int).toNat).drop (((rd_T40 l2 a3_0).f2):Int).toNat) a4 t455 _ ?side1 ?side2 ?side3 ?side4 A27.out).mono ?_
 (case side1=>exact CU (Kd.C_below HR453.out HB.out))
 (case side2=>exact HC453.out)
 (case side3=>exact CU (Kd.C_below HR454.out HB.out))
 (case side4=>exact HC454.out)
 rintro e w38 ⟨v456,rfl,ho0,hb⟩
 refine ⟨_,rfl,?_⟩
 have HO457:=Am (Kd.R_lower ho0 (below_size TB))
 replace BK445:=Am (blk_below (blkU BK445.out) hb)
 replace BK446:=Am (blk_below (blkU BK446.out) hb)
 replace BK447:=Am (blk_below (blkU BK447.out) hb)
 replace HB:=Am (below_step TB hb)
 (try clear hb)
 (try clear hb2)
 (try clear hk)
 (try clear hi)
 (try clear ho0)
 refine hK.out _ _ trivial (fun hHeld=>?_)
 clear hK K
 refine norm_ (a':=?_) ?_ ?_
 rotate_left
 ·
  show Act.put _ (some 44) _=_
  simp only [PT]
  rfl
 refine pureS (i:=10) (N:=some 14) (bl 11 2047) rfl rfl (any_of HT_.out TK) ?_
 refine done_ (done_of HT_.out TK) ?_
 obtain ⟨hcz39_0,hcz39_1,hcz39_2,hcz39_3,hcz39_4⟩:=blkC5 BK445.out
 obtain ⟨hfz39_0,hfz39_1,hfz39_2,hfz39_3,hfz39_4⟩:=blkF5 BK445.out
 try go_wp2
 go_loopg [15] k (fun kq v15 w'=> ∃ (x15_1:Int) (x448000_1:List (S40)) (x448001_1:List Int) (u448000:Value) (u448001:Value),v15= .int .i64 x15_1∧Aside0 (q19_Seen.l0 kq l2 ((rd_T40 l2 a3_0).f2) t455 x15_1 a3_0 a3_1 a3_2 a3_3 a3_4 x448000_1 x448001_1=some (r1,r2))∧Aside0 (kq≤k)∧Aside0 (Kd.R (Kd.int .i64) 3 w' w.heap.size (fun k_=>some k_≠(u448001:Value).ownBlock) v456 t455)∧Aside0 (Kd.R k40 40 w' w.heap.size (fun _=>True) u448000 x448000_1)∧Aside0 (Kd.R (Kd.int .i64) 3 w' w.heap.size (fun k_=>some k_≠(v456:Value).ownBlock) u448001 x448001_1)∧Aside0 (w'.heap[gb445]?=some (.cells #[.int .i64 a3_0,.int .i64 a3_1,.int .i64 a3_2,.int .i64 a3_3,.int .i64 a3_4] 25 (0,0)))∧Aside0 (w'.heap[gb446]?=some (.cells #[(.slice none 0 0),(.slice none 0 0)] 59 (0,0)))∧Aside0 (w'.heap[gb447]?=some (.cells #[u448000,u448001] 59 (0,0)))∧Aside0 (Below w.heap.size w w'))
 case atStart=>exact ⟨(a3_0),(([]:List (S40))),(([]:List Int)),(.slice none 0 0),(.slice none 0 0),TS,H',⟨Nat.le_refl _⟩,⟨RU (Kd.R_mono HO457.out (fun _ hk=>(by simp [Value.ownBlock])))⟩,⟨by first|exact Kd.R_nil _ _ _ _ _|exact Kd.N_nil _ _ _ _ _|exact Kd.V_nil _ _ _ _ _|exact Kd.Q_nil _ _ _ _ _|exact Kd.S_nil _ _ _ _ _⟩,⟨by first|exact Kd.R_nil _ _ _ _ _|exact Kd.N_nil _ _ _ _ _|exact Kd.V_nil _ _ _ _ _|exact Kd.Q_nil _ _ _ _ _|exact Kd.S_nil _ _ _ _ _⟩,⟨blkU BK445.out⟩,⟨blkU BK446.out⟩,⟨blkU BK447.out⟩,⟨TB⟩⟩
 case round =>
  clear H'
  obtain ⟨x15_1,x448000_1,x448001_1,u448000,u448001,rfl,HA,HK1,HO_14,HO_448000,HO_448001,BK445,BK446,BK447,HB⟩:=hrel
  cases gk with
  | zero=>exact absurd HA.out (by simp [q19_Seen.l0])
  | succ k1 =>
   have H:=HA.out
   clear HA
   simp only [q19_Seen.l0] at H
   by_cases c40:x15_1 < a3_2
   rotate_left
   ·
    rw [if_neg c40] at H
    have c40b0:decide (x15_1 < a3_2)=false:=decide_eq_false c40
    clear c40
    simp only [Option.some.injEq,Prod.mk.injEq] at H
    obtain ⟨rfl,rfl⟩:=H
    have hnb65:=NB445_446.out
    have hnc65:=NB446_445.out
    have hnb66:=NB445_447.out
    have hnc66:=NB447_445.out
    obtain ⟨hcz67_0,hcz67_1,hcz67_2,hcz67_3,hcz67_4⟩:=blkC5 BK445.out
    obtain ⟨hfz67_0,hfz67_1,hfz67_2,hfz67_3,hfz67_4⟩:=blkF5 BK445.out
    have hnb68:=NB447_446.out
    have hnc68:=NB446_447.out
    obtain ⟨hcz69_0,hcz69_1⟩:=blkC2 BK447.out
    obtain ⟨hfz69_0,hfz69_1⟩:=blkF2 BK447.out
    obtain ⟨Ao70,co70,eo70⟩:=Kd.R_slice HO_448000.out
    subst eo70
    obtain ⟨hcz71_0,hcz71_1⟩:=blkC2 BK446.out
    obtain ⟨hfz71_0,hfz71_1⟩:=blkF2 BK446.out
    obtain ⟨Ao72,co72,eo72⟩:=Kd.R_slice HO_448001.out
    subst eo72
    go_wp2
    refine bodyPost_ret (results_cell_row rfl _ _ gb446 59 #[.slice Ao70 x448000_1.length co70,.slice Ao72 x448001_1.length co72] (0,0) _ rfl (by refine blk_put (cs:= #[.slice Ao70 x448000_1.length co70,.slice none 0 0]) ?_ 1 _ rfl;refine blk_put (cs:= #[.slice none 0 0,.slice none 0 0]) ?_ 0 _ rfl;exact BK446.out) Try.underlying59 rfl TK) rfl ?_
    exact ⟨_,_,by first|rfl|(simp [errW_none,errW_some] <;> rfl)|(simp only [← hji18];first|rfl|(simp [errW_none,errW_some] <;> rfl))|(simp [*,errW_none,errW_some] <;> rfl),RU (Kd.R_mono (Kd.R_far (p:=⟨gb446,1,none⟩) (Kd.R_far (p:=⟨gb446,0,none⟩) (Kd.R_types HO_448000.out BK446.out (by decide)) (fun _ hk=>hk.2) (.slice Ao70 x448000_1.length co70)) (fun _ hk=>hk.2) (.slice Ao72 x448001_1.length co72)) (fun _ hk=>trivial)),RU (Kd.R_mono (Kd.R_far (p:=⟨gb446,1,none⟩) (Kd.R_far (p:=⟨gb446,0,none⟩) (Kd.R_types HO_448001.out BK446.out (by decide)) (fun _ hk=>hk.2) (.slice Ao70 x448000_1.length co70)) (fun _ hk=>hk.2) (.slice Ao72 x448001_1.length co72)) (fun _ hk=>trivial)),TB⟩
   rw [if_pos c40] at H
   have c40b0:decide (x15_1 < a3_2)=true:=decide_eq_true c40
   clear c40
   obtain ⟨c41,H⟩:=ifS H
   have c41b0:decide (0≤x15_1)=true:=decide_eq_true c41
   clear c41
   obtain ⟨c42,H⟩:=ifS H
   have c42b0:decide (x15_1 < (l2.length:Int))=true:=decide_eq_true c42
   clear c42
   by_cases c43:((rd_T40 l2 x15_1).f4) > 0
   rotate_left
   ·
    rw [if_neg c43] at H
    have c43b0:decide (0 < ((rd_T40 l2 x15_1).f4))=false:=decide_eq_false c43
    clear c43
    have H':=Am H
    clear H
    have hnb62:=NB445_446.out
    have hnc62:=NB446_445.out
    have hnb63:=NB445_447.out
    have hnc63:=NB447_445.out
    obtain ⟨hcz64_0,hcz64_1,hcz64_2,hcz64_3,hcz64_4⟩:=blkC5 BK445.out
    obtain ⟨hfz64_0,hfz64_1,hfz64_2,hfz64_3,hfz64_4⟩:=blkF5 BK445.out
    have p458:0≤(x15_1:Int):=tD
    have q458:x15_1 < (l2.length:Int):=tD
    obtain ⟨ad458,e458,hx458_0,hx458_1,hx458_2,hx458_3,hx458_4,hx458_5⟩:=at_T40 HR2.out x15_1 p458 q458
    obtain rfl:ad448=ad458:=(by injection e458)
    replace hx458_0:=cellU HB.out hx458_0
    replace hx458_1:=cellU HB.out hx458_1
    replace hx458_2:=cellU HB.out hx458_2
    replace hx458_3:=cellU HB.out hx458_3
    replace hx458_4:=cellU HB.out hx458_4
    replace hx458_5:=cellU HB.out hx458_5
    replace p458:=eq_true p458
    replace q458:=eq_true q458
    go_wp2
    go_roundg k1
    case measure=>have:=HK1.out;omega
    case rel=>exact ⟨(wrap64 (x15_1+1)),(x448000_1),(x448001_1),(u448000),(u448001),TS,H',⟨by have:=HK1.out;omega⟩,⟨RU HO_14.out⟩,⟨RU HO_448000.out⟩,⟨RU HO_448001.out⟩,⟨blkU BK445.out⟩,⟨blkU BK446.out⟩,⟨blkU BK447.out⟩,⟨TB⟩⟩
   rw [if_pos c43] at H
   have c43b0:decide (0 < ((rd_T40 l2 x15_1).f4))=true:=decide_eq_true c43
   clear c43
   obtain ⟨c44,H⟩:=ifS H
   have LMc44:=Am c44
   clear c44
   obtain ⟨y460,hy460⟩: ∃ y_:List (S40),y_=(x448000_1++[(⟨(rd_T40 l2 x15_1).f0,(rd_T40 l2 x15_1).f1,(rd_T40 l2 x15_1).f2,(rd_T40 l2 x15_1).f3,(rd_T40 l2 x15_1).f4,(rd_T40 l2 x15_1).f5⟩:S40)]):=⟨_,rfl⟩
   replace H:(if 0≤(wrap64 (((rd_T40 l2 x15_1).f2) - ((rd_T40 l2 a3_0).f2))) then (if (wrap64 (((rd_T40 l2 x15_1).f2) - ((rd_T40 l2 a3_0).f2))) < (t455.length:Int) then (if x448001_1.length < 17592186044416 then (q19_Seen.l0 k1 l2 ((rd_T40 l2 a3_0).f2) t455 (wrap64 (x15_1+1)) a3_0 a3_1 a3_2 a3_3 a3_4 y460 (x448001_1++[rd t455 (wrap64 (((rd_T40 l2 x15_1).f2) - ((rd_T40 l2 a3_0).f2)))])) else (none)) else (none)) else (none))=some (r1,r2):=by first|(rw [hy460];with_reducible exact H)|(have H2_:=(Option.bind_some _ _).symm.trans H;rw [hy460];with_reducible exact H2_)|(have H2_:=(Option.bind_some _ _).symm.trans H;with_reducible exact H2_)|with_reducible exact H|(rw [hy460];exact H)|exact H
   have Ny460:=Am hy460
   clear hy460
   obtain ⟨ji45,hji45⟩: ∃ j_:Int,(wrap64 (((rd_T40 l2 x15_1).f2) - ((rd_T40 l2 a3_0).f2)))=j_:=⟨_,rfl⟩
   replace H:(if 0≤(ji45) then (if (ji45) < (t455.length:Int) then (if x448001_1.length < 17592186044416 then (q19_Seen.l0 k1 l2 ((rd_T40 l2 a3_0).f2) t455 (wrap64 (x15_1+1)) a3_0 a3_1 a3_2 a3_3 a3_4 y460 (x448001_1++[rd t455 (ji45)])) else (none)) else (none)) else (none))=some (r1,r2):=by first|(rw [hji45] at H;exact H)|(simp only [hji45] at H ⊢;exact H)
   have hji45w:(IntKind.i64.wrap (((rd_T40 l2 x15_1).f2) - ((rd_T40 l2 a3_0).f2)))=ji45:=(i64_w _).trans hji45
   obtain ⟨c46,H⟩:=ifS H
   have c46b0:decide (0≤(ji45))=true:=decide_eq_true c46
   clear c46
   obtain ⟨c47,H⟩:=ifS H
   have c47b0:decide ((ji45) < (t455.length:Int))=true:=decide_eq_true c47
   clear c47
   obtain ⟨c48,H⟩:=ifS H
   have LMc48:=Am c48
   clear c48
   obtain ⟨y465,hy465⟩: ∃ y_:List Int,y_=(x448001_1++[rd t455 (ji45)]):=⟨_,rfl⟩
   replace H:(q19_Seen.l0 k1 l2 ((rd_T40 l2 a3_0).f2) t455 (wrap64 (x15_1+1)) a3_0 a3_1 a3_2 a3_3 a3_4 y460 y465)=some (r1,r2):=by first|(rw [hy465];with_reducible exact H)|(have H2_:=(Option.bind_some _ _).symm.trans H;rw [hy465];with_reducible exact H2_)|(have H2_:=(Option.bind_some _ _).symm.trans H;with_reducible exact H2_)|with_reducible exact H|(rw [hy465];exact H)|exact H
   have Ny465:=Am hy465
   clear hy465
   have H':=Am H
   clear H
   have hnb49:=NB445_446.out
   have hnc49:=NB446_445.out
   have hnb50:=NB445_447.out
   have hnc50:=NB447_445.out
   obtain ⟨hcz51_0,hcz51_1,hcz51_2,hcz51_3,hcz51_4⟩:=blkC5 BK445.out
   obtain ⟨hfz51_0,hfz51_1,hfz51_2,hfz51_3,hfz51_4⟩:=blkF5 BK445.out
   have p458:0≤(x15_1:Int):=tD
   have q458:x15_1 < (l2.length:Int):=tD
   obtain ⟨ad458,e458,hx458_0,hx458_1,hx458_2,hx458_3,hx458_4,hx458_5⟩:=at_T40 HR2.out x15_1 p458 q458
   obtain rfl:ad448=ad458:=(by injection e458)
   replace hx458_0:=cellU HB.out hx458_0
   replace hx458_1:=cellU HB.out hx458_1
   replace hx458_2:=cellU HB.out hx458_2
   replace hx458_3:=cellU HB.out hx458_3
   replace hx458_4:=cellU HB.out hx458_4
   replace hx458_5:=cellU HB.out hx458_5
   replace p458:=eq_true p458
   replace q458:=eq_true q458
   try go_wp2
   replace HO_14:=Am (Kd.R_drew HO_14.out)
   replace HO_448000:=Am (Kd.R_drew HO_448000.out)
   replace HO_448001:=Am (Kd.R_drew HO_448001.out)
   replace BK445:=Am (blk_drew BK445.out)
   replace BK446:=Am (blk_drew BK446.out)
   replace BK447:=Am (blk_drew BK447.out)
   replace HB:=Am (below_drew1 HB.out)
   have p459:0≤(x15_1:Int):=tD
   have q459:x15_1 < (l2.length:Int):=tD
   obtain ⟨ad459,e459,hx459_0,hx459_1,hx459_2,hx459_3,hx459_4,hx459_5⟩:=at_T40 HR2.out x15_1 p459 q459
   have hw459_5:=hx459_5
   have hw459_4:=hx459_4
   have hw459_3:=hx459_3
   have hw459_2:=hx459_2
   have hw459_1:=hx459_1
   have hw459_0:=hx459_0
   obtain rfl:ad448=ad459:=(by injection e459)
   replace hx459_0:=cellU HB.out hx459_0
   replace hx459_1:=cellU HB.out hx459_1
   replace hx459_2:=cellU HB.out hx459_2
   replace hx459_3:=cellU HB.out hx459_3
   replace hx459_4:=cellU HB.out hx459_4
   replace hx459_5:=cellU HB.out hx459_5
   replace p459:=eq_true p459
   replace q459:=eq_true q459
   refine start_ (n:=10) (S:=fun w'=>w'.cell? ⟨gb447,0,none⟩=some (u448000)∧w'.cell? ⟨gb447,1,none⟩=some (u448001)∧w'.cell? (ad448.add ((x15_1).toNat * 6))=some (.int .i64 ((rd_T40 l2 x15_1).f0))∧w'.cell? ⟨(ad448.add ((x15_1).toNat * 6)).block,(ad448.add ((x15_1).toNat * 6)).off+1,none⟩=some (.int .i64 ((rd_T40 l2 x15_1).f1))∧w'.cell? ⟨(ad448.add ((x15_1).toNat * 6)).block,(ad448.add ((x15_1).toNat * 6)).off+2,none⟩=some (.int .i64 ((rd_T40 l2 x15_1).f2))∧w'.cell? ⟨(ad448.add ((x15_1).toNat * 6)).block,(ad448.add ((x15_1).toNat * 6)).off+3,none⟩=some (.int .i64 ((rd_T40 l2 x15_1).f3))∧w'.cell? ⟨(ad448.add ((x15_1).toNat * 6)).block,(ad448.add ((x15_1).toNat * 6)).off+4,none⟩=some (.int .i64 ((rd_T40 l2 x15_1).f4))∧w'.cell? ⟨(ad448.add ((x15_1).toNat * 6)).block,(ad448.add ((x15_1).toNat * 6)).off+5,none⟩=some (.int .i64 ((rd_T40 l2 x15_1).f5))) (ds:=[9]) (bl 10 0) TK rfl rfl ⟨(blk_cell BK447.out 0).trans rfl,(blk_cell BK447.out 1).trans rfl,(cellU HB.out hw459_0),(cellU HB.out hw459_1),(cellU HB.out hw459_2),(cellU HB.out hw459_3),(cellU HB.out hw459_4),(cellU HB.out hw459_5)⟩ (fun hHeld=>?_);refine with_tabW q19_Seen.tab10 q19_Seen.bits10 (fun HT_ HW_=>?_)
   generalize wr.drew=w52 at HO_14 HO_448000 HO_448001 BK445 BK446 BK447 HB hx459_0 hx459_1 hx459_2 hx459_3 hx459_4 hx459_5 hHeld ⊢
   refine pureS (i:=0) (N:=some 59) (bl 10 1) rfl rfl (any_of HT_.out TK) ?_
   refine pureS (i:=2) (N:=some 61) (bl 10 5) rfl rfl (any_of HT_.out TK) ?_
   refine pureS (i:=3) (N:=some 62) (bl 10 13) rfl rfl (any_of HT_.out TK) ?_
   refine pureS (i:=4) (N:=some 63) (bl 10 29) rfl rfl (any_of HT_.out TK) ?_
   refine take_ (i:=1) (N:=some 60) (v:=?_) (a':=?_) (bl 10 31) rfl rfl (take_ofW HT_.out HW_.out TK) (fun _ _ _ h=>h) (Or.inl ⟨by rfl,?_⟩) hHeld ?_ ?_
   rotate_left
   ·
    rintro w' ⟨s0,s1,s2,s3,s4,s5,s6,s7⟩
    go_simp
    with_reducible rfl
   rotate_left
   ·
    simp only [PT]
    rfl
   refine take_ (i:=5) (N:=some 64) (v:=?_) (a':=?_) (bl 10 63) rfl rfl (take_ofW HT_.out HW_.out TK) (fun _ _ _ h=>h) (Or.inl ⟨by rfl,?_⟩) hHeld ?_ ?_
   rotate_left
   ·
    rintro w' ⟨s0,s1,s2,s3,s4,s5,s6,s7⟩
    go_simp
    with_reducible rfl
   rotate_left
   ·
    simp only [PT]
    rfl
   refine one_ (i:=6) (N:=some 65) (bl 10 127) rfl rfl (one_of HT_.out TK) (by decide) (fun K hK=>?_)
   refine value_ (w1:=?_) (v:=?_) (by rfl) rfl ?_ ?_
   rotate_left 2
   ·
    go_simp
    constructor
    ·
     rfl
    ·
     rfl
   refine hK.out _ _ ⟨(blk_cell (blk_alloc BK447.out _) 0).trans rfl,(blk_cell (blk_alloc BK447.out _) 1).trans rfl,(World.cell?_alloc_lt _ _ _ (World.block_lt_of_cell? _ _ ((cellU HB.out hw459_0)))).trans ((cellU HB.out hw459_0)),(World.cell?_alloc_lt _ _ _ (World.block_lt_of_cell? _ _ ((cellU HB.out hw459_1)))).trans ((cellU HB.out hw459_1)),(World.cell?_alloc_lt _ _ _ (World.block_lt_of_cell? _ _ ((cellU HB.out hw459_2)))).trans ((cellU HB.out hw459_2)),(World.cell?_alloc_lt _ _ _ (World.block_lt_of_cell? _ _ ((cellU HB.out hw459_3)))).trans ((cellU HB.out hw459_3)),(World.cell?_alloc_lt _ _ _ (World.block_lt_of_cell? _ _ ((cellU HB.out hw459_4)))).trans ((cellU HB.out hw459_4)),(World.cell?_alloc_lt _ _ _ (World.block_lt_of_cell? _ _ ((cellU HB.out hw459_5)))).trans ((cellU HB.out hw459_5))⟩ (fun hHeld=>?_)
   clear hK K
   refine norm_ (a':=?_) ?_ ?_
   rotate_left
   ·
    show Act.put _ (some 65) _=_
    simp only [PT]
    rfl
   refine one_ (i:=7) (N:=some 66) (bl 10 255) rfl rfl (one_of HT_.out TK) (by decide) (fun K hK=>?_)
   refine Kd.R_append_step k40 (w0:=w) w.heap.size (by rfl) (.tmp 60) (.tmp 65) 37 40 (.agg #[(.int .i64 0),(.int .i64 0),(.int .i64 0),(.int .i64 0),(.int .i64 0),(.int .i64 0)]) 48 rfl Try.underlying37 info40 rfl (by decide) (by omega) u448000 x448000_1 (⟨(rd_T40 l2 x15_1).f0,(rd_T40 l2 x15_1).f1,(rd_T40 l2 x15_1).f2,(rd_T40 l2 x15_1).f3,(rd_T40 l2 x15_1).f4,(rd_T40 l2 x15_1).f5⟩:S40) [.int .i64 ((rd_T40 l2 x15_1).f0),.int .i64 ((rd_T40 l2 x15_1).f1),.int .i64 ((rd_T40 l2 x15_1).f2),.int .i64 ((rd_T40 l2 x15_1).f3),.int .i64 ((rd_T40 l2 x15_1).f4),.int .i64 ((rd_T40 l2 x15_1).f5)] (fun _=>True) (fun _=>False) rfl rfl ?aP (fun _ hk=>hk.elim) ?aF ?aO ?aB ?aS ?aL ?_
   (case aP=>exact k40_mkM _ _ _ (⟨(rd_T40 l2 x15_1).f0,(rd_T40 l2 x15_1).f1,(rd_T40 l2 x15_1).f2,(rd_T40 l2 x15_1).f3,(rd_T40 l2 x15_1).f4,(rd_T40 l2 x15_1).f5⟩:S40))
   (case aB=>exact TB)
   (case aF=>exact (fun _ _=>trivial))
   (case aO=>exact (RU HO_448000.out))
   (case aS=>exact (below_size TB))
   (case aL=>have:=LMc44.out;omega)
   intro v461 w53 ho hb hg hat
   rw [← Ny460.out] at ho
   replace HO_14:=Am (Kd.R_over' (RU HO_14.out) (Kd.R_typed (RU HO_448000.out)) (by decide) hg)
   replace HO_448001:=Am (Kd.R_over' (RU HO_448001.out) (Kd.R_typed (RU HO_448000.out)) (by decide) hg)
   replace BK445:=Am (blk_grown (g:=gb445) (o:= .cells #[.int .i64 a3_0,.int .i64 a3_1,.int .i64 a3_2,.int .i64 a3_3,.int .i64 a3_4] 25 (0,0)) (blkU BK445.out) hg (Kd.R_ne HO_448000.out BK445.out (by decide)))
   replace BK446:=Am (blk_grown (g:=gb446) (o:= .cells #[.slice none 0 0,.slice none 0 0] 59 (0,0)) (blkU BK446.out) hg (Kd.R_ne HO_448000.out BK446.out (by decide)))
   replace BK447:=Am (blk_grown (g:=gb447) (o:= .cells #[u448000,u448001] 59 (0,0)) (blkU BK447.out) hg (Kd.R_ne HO_448000.out BK447.out (by decide)))
   have HO462:=Am (ho)
   replace HB:=Am (hb)
   clear HO_448000
   clear ho hb hg hat
   obtain ⟨Ao54,co54,eo54⟩:=Kd.R_slice HO462.out
   (first|subst eo54|(injection eo54 with f1_ f2_ f3_;have f4_:=f1_.symm;have f5_:=f3_.symm;clear f1_ f2_ f3_;subst f4_;subst f5_))
   refine hK.out _ _ ⟨(blk_cell BK447.out 0).trans rfl,(blk_cell BK447.out 1).trans rfl,(cellU HB.out hw459_0),(cellU HB.out hw459_1),(cellU HB.out hw459_2),(cellU HB.out hw459_3),(cellU HB.out hw459_4),(cellU HB.out hw459_5)⟩ (fun hHeld=>?_)
   clear hK K
   refine norm_ (a':=?_) ?_ ?_
   rotate_left
   ·
    show Act.put _ (some 66) _=_
    simp only [PT]
    rfl
   refine pureS (i:=8) (N:=some 67) (bl 10 511) rfl rfl (any_of HT_.out TK) ?_
   refine last_ (i:=9) (N:=none) (bl 10 1023) rfl rfl (one_of HT_.out TK) (by decide) (fun K hK=>?_)
   have hs55:w53.cell? ⟨gb447,0,none⟩=some (u448000):=(blk_cell BK447.out 0).trans rfl
   have hfs55:=blk_frozen BK447.out 0
   have hns55_0:=NB445_447.out
   have hns55_1:=NB446_447.out
   have hms55_0:=NB447_445.out
   have hms55_1:=NB447_446.out
   refine skip_ (w1:=?_) (by rfl) rfl ?_ ?_
   rotate_left
   ·
    go_simp
    rfl
   refine hK.out _ _ ?_
   clear hK K
   refine done_ (done_of HT_.out TK) ?_
   try go_wp2
   have n0_:Aside0 (Kd.R (Kd.int .i64) 3 (w53.setCell ⟨gb447,0,none⟩ (.slice Ao54 y460.length co54)) w.heap.size (fun k_=>some k_≠(u448001:Value).ownBlock) v456 t455):=⟨RU (Kd.R_mono (Kd.R_far (p:=⟨gb447,0,none⟩) (Kd.R_types HO_14.out BK447.out (by decide)) (fun _ hk=>hk.2) (.slice Ao54 y460.length co54)) (fun _ hk=>hk.1))⟩
   have n1_:Aside0 (Kd.R (Kd.int .i64) 3 (w53.setCell ⟨gb447,0,none⟩ (.slice Ao54 y460.length co54)) w.heap.size (fun k_=>some k_≠(v456:Value).ownBlock) u448001 x448001_1):=⟨RU (Kd.R_mono (Kd.R_far (p:=⟨gb447,0,none⟩) (Kd.R_types HO_448001.out BK447.out (by decide)) (fun _ hk=>hk.2) (.slice Ao54 y460.length co54)) (fun _ hk=>hk.1))⟩
   have n2_:Aside0 (Kd.R k40 40 (w53.setCell ⟨gb447,0,none⟩ (.slice Ao54 y460.length co54)) w.heap.size (fun _=>True) (.slice Ao54 y460.length co54) y460):=⟨RU (Kd.R_mono (Kd.R_far (p:=⟨gb447,0,none⟩) (Kd.R_types HO462.out BK447.out (by decide)) (fun _ hk=>hk.2) (.slice Ao54 y460.length co54)) (fun _ hk=>trivial))⟩
   have n3_:Aside0 ((w53.setCell ⟨gb447,0,none⟩ (.slice Ao54 y460.length co54)).heap[gb445]?=some (.cells #[.int .i64 a3_0,.int .i64 a3_1,.int .i64 a3_2,.int .i64 a3_3,.int .i64 a3_4] 25 (0,0))):=⟨by refine blk_far ?_ NB445_447.out _;exact BK445.out⟩
   have n4_:Aside0 ((w53.setCell ⟨gb447,0,none⟩ (.slice Ao54 y460.length co54)).heap[gb446]?=some (.cells #[.slice none 0 0,.slice none 0 0] 59 (0,0))):=⟨by refine blk_far ?_ NB446_447.out _;exact BK446.out⟩
   have n5_:Aside0 ((w53.setCell ⟨gb447,0,none⟩ (.slice Ao54 y460.length co54)).heap[gb447]?=some (.cells #[.slice Ao54 y460.length co54,u448001] 59 (0,0))):=⟨by refine blk_put (cs:= #[u448000,u448001]) ?_ 0 _ rfl;exact BK447.out⟩
   have n6_:Aside0 (Below w.heap.size w (w53.setCell ⟨gb447,0,none⟩ (.slice Ao54 y460.length co54))):=⟨TB⟩
   (try clear HO_14)
   (try clear HO_448001)
   (try clear HO462)
   (try clear BK445)
   (try clear BK446)
   (try clear BK447)
   (try clear HB)
   generalize (w53.setCell ⟨gb447,0,none⟩ (.slice Ao54 y460.length co54))=w56 at n0_ n1_ n2_ n3_ n4_ n5_ n6_ ⊢
   have HO_14:=n0_
   have HO_448001:=n1_
   have HO462:=n2_
   have BK445:=n3_
   have BK446:=n4_
   have BK447:=n5_
   have HB:=n6_
   clear n0_ n1_ n2_ n3_ n4_ n5_ n6_
   replace HO_14:=Am (Kd.R_drew HO_14.out)
   replace HO_448001:=Am (Kd.R_drew HO_448001.out)
   replace HO462:=Am (Kd.R_drew HO462.out)
   replace BK445:=Am (blk_drew BK445.out)
   replace BK446:=Am (blk_drew BK446.out)
   replace BK447:=Am (blk_drew BK447.out)
   replace HB:=Am (below_drew1 HB.out)
   have p463:0≤(x15_1:Int):=tD
   have q463:x15_1 < (l2.length:Int):=tD
   obtain ⟨ad463,e463,hx463_0,hx463_1,hx463_2,hx463_3,hx463_4,hx463_5⟩:=at_T40 HR2.out x15_1 p463 q463
   have hw463_5:=hx463_5
   have hw463_4:=hx463_4
   have hw463_3:=hx463_3
   have hw463_2:=hx463_2
   have hw463_1:=hx463_1
   have hw463_0:=hx463_0
   obtain rfl:ad448=ad463:=(by injection e463)
   replace hx463_0:=cellU HB.out hx463_0
   replace hx463_1:=cellU HB.out hx463_1
   replace hx463_2:=cellU HB.out hx463_2
   replace hx463_3:=cellU HB.out hx463_3
   replace hx463_4:=cellU HB.out hx463_4
   replace hx463_5:=cellU HB.out hx463_5
   replace p463:=eq_true p463
   replace q463:=eq_true q463
   obtain ⟨Ao58,co58,eo58⟩:=Kd.R_slice HO_14.out
   (first|subst eo58|(injection eo58 with f1_ f2_ f3_;have f4_:=f1_.symm;have f5_:=f3_.symm;clear f1_ f2_ f3_;subst f4_;subst f5_))
   have p464:0≤((ji45):Int):=tD
   have q464:(ji45) < (t455.length:Int):=tD
   obtain ⟨ad464,e464,hx464_0⟩:=Kd.at_int (Kd.R_reads' HO_14.out).2.2 (ji45) p464 q464
   cases e464
   replace p464:=eq_true p464
   replace q464:=eq_true q464
   refine start_ (n:=16) (S:=fun w'=>w'.cell? ⟨gb447,0,none⟩=some (.slice Ao54 y460.length co54)∧w'.cell? ⟨gb447,1,none⟩=some (u448001)∧w'.cell? (ad448.add ((x15_1).toNat * 6))=some (.int .i64 ((rd_T40 l2 x15_1).f0))∧w'.cell? ⟨(ad448.add ((x15_1).toNat * 6)).block,(ad448.add ((x15_1).toNat * 6)).off+1,none⟩=some (.int .i64 ((rd_T40 l2 x15_1).f1))∧w'.cell? ⟨(ad448.add ((x15_1).toNat * 6)).block,(ad448.add ((x15_1).toNat * 6)).off+2,none⟩=some (.int .i64 ((rd_T40 l2 x15_1).f2))∧w'.cell? ⟨(ad448.add ((x15_1).toNat * 6)).block,(ad448.add ((x15_1).toNat * 6)).off+3,none⟩=some (.int .i64 ((rd_T40 l2 x15_1).f3))∧w'.cell? ⟨(ad448.add ((x15_1).toNat * 6)).block,(ad448.add ((x15_1).toNat * 6)).off+4,none⟩=some (.int .i64 ((rd_T40 l2 x15_1).f4))∧w'.cell? ⟨(ad448.add ((x15_1).toNat * 6)).block,(ad448.add ((x15_1).toNat * 6)).off+5,none⟩=some (.int .i64 ((rd_T40 l2 x15_1).f5))∧w'.cell? (ad464.add ((ji45)).toNat)=some (.int .i64 (rd t455 (ji45)))) (ds:=[13,15]) (bl 16 0) TK rfl rfl ⟨(blk_cell BK447.out 0).trans rfl,(blk_cell BK447.out 1).trans rfl,(cellU HB.out hw463_0),(cellU HB.out hw463_1),(cellU HB.out hw463_2),(cellU HB.out hw463_3),(cellU HB.out hw463_4),(cellU HB.out hw463_5),hx464_0⟩ (fun hHeld=>?_);refine with_tabW q19_Seen.tab11 q19_Seen.bits11 (fun HT_ HW_=>?_)
   generalize w56.drew=w57 at HO_14 HO_448001 HO462 BK445 BK446 BK447 HB hx463_0 hx463_1 hx463_2 hx463_3 hx463_4 hx463_5 hx464_0 hHeld ⊢
   refine pureS (i:=0) (N:=some 68) (bl 16 1) rfl rfl (any_of HT_.out TK) ?_
   refine pureS (i:=2) (N:=some 70) (bl 16 5) rfl rfl (any_of HT_.out TK) ?_
   refine pureS (i:=3) (N:=some 71) (bl 16 13) rfl rfl (any_of HT_.out TK) ?_
   refine pureS (i:=4) (N:=some 72) (bl 16 29) rfl rfl (any_of HT_.out TK) ?_
   refine pureS (i:=5) (N:=some 73) (bl 16 61) rfl rfl (any_of HT_.out TK) ?_
   refine pureS (i:=6) (N:=some 74) (bl 16 125) rfl rfl (any_of HT_.out TK) ?_
   refine pureS (i:=8) (N:=some 76) (bl 16 381) rfl rfl (any_of HT_.out TK) ?_
   refine take_ (i:=1) (N:=some 69) (v:=?_) (a':=?_) (bl 16 383) rfl rfl (take_ofW HT_.out HW_.out TK) (fun _ _ _ h=>h) (Or.inl ⟨by rfl,?_⟩) hHeld ?_ ?_
   rotate_left
   ·
    rintro w' ⟨s0,s1,s2,s3,s4,s5,s6,s7,s8⟩
    go_simp
    with_reducible rfl
   rotate_left
   ·
    simp only [PT]
    rfl
   refine take_ (i:=7) (N:=some 75) (v:=?_) (a':=?_) (bl 16 511) rfl rfl (take_ofW HT_.out HW_.out TK) (fun _ _ _ h=>h) (Or.inl ⟨by rfl,?_⟩) hHeld ?_ ?_
   rotate_left
   ·
    rintro w' ⟨s0,s1,s2,s3,s4,s5,s6,s7,s8⟩
    go_simp
    with_reducible rfl
   rotate_left
   ·
    simp only [PT]
    rfl
   refine pureS (i:=9) (N:=some 77) (bl 16 1023) rfl rfl (any_of HT_.out TK) ?_
   refine pureS (i:=10) (N:=some 78) (bl 16 2047) rfl rfl (any_of HT_.out TK) ?_
   refine take_ (i:=11) (N:=some 79) (v:=?_) (a':=?_) (bl 16 4095) rfl rfl (take_ofW HT_.out HW_.out TK) (fun _ _ _ h=>h) (Or.inl ⟨by rfl,?_⟩) hHeld ?_ ?_
   rotate_left
   ·
    rintro w' ⟨s0,s1,s2,s3,s4,s5,s6,s7,s8⟩
    go_simp
    with_reducible rfl
   rotate_left
   ·
    simp only [PT]
    rfl
   refine one_ (i:=12) (N:=some 80) (bl 16 8191) rfl rfl (one_of HT_.out TK) (by decide) (fun K hK=>?_)
   refine value_ (w1:=?_) (v:=?_) (by rfl) rfl ?_ ?_
   rotate_left 2
   ·
    go_simp
    constructor
    ·
     rfl
    ·
     rfl
   refine hK.out _ _ ⟨(blk_cell (blk_alloc BK447.out _) 0).trans rfl,(blk_cell (blk_alloc BK447.out _) 1).trans rfl,(World.cell?_alloc_lt _ _ _ (World.block_lt_of_cell? _ _ ((cellU HB.out hw463_0)))).trans ((cellU HB.out hw463_0)),(World.cell?_alloc_lt _ _ _ (World.block_lt_of_cell? _ _ ((cellU HB.out hw463_1)))).trans ((cellU HB.out hw463_1)),(World.cell?_alloc_lt _ _ _ (World.block_lt_of_cell? _ _ ((cellU HB.out hw463_2)))).trans ((cellU HB.out hw463_2)),(World.cell?_alloc_lt _ _ _ (World.block_lt_of_cell? _ _ ((cellU HB.out hw463_3)))).trans ((cellU HB.out hw463_3)),(World.cell?_alloc_lt _ _ _ (World.block_lt_of_cell? _ _ ((cellU HB.out hw463_4)))).trans ((cellU HB.out hw463_4)),(World.cell?_alloc_lt _ _ _ (World.block_lt_of_cell? _ _ ((cellU HB.out hw463_5)))).trans ((cellU HB.out hw463_5)),(World.cell?_alloc_lt _ _ _ (World.block_lt_of_cell? _ _ (hHeld.2.2.2.2.2.2.2.2))).trans (hHeld.2.2.2.2.2.2.2.2)⟩ (fun hHeld=>?_)
   clear hK K
   refine norm_ (a':=?_) ?_ ?_
   rotate_left
   ·
    show Act.put _ (some 80) _=_
    simp only [PT]
    rfl
   refine last_ (i:=13) (N:=some 81) (bl 16 16383) rfl rfl (one_of HT_.out TK) (by decide) (fun K hK=>?_)
   refine Kd.R_append_step (Kd.int .i64) (w0:=w) w.heap.size (by rfl) (.tmp 69) (.tmp 80) 23 3 (.int .i64 0) 8 rfl Try.underlying23 info3 rfl (by decide) (by omega) u448001 x448001_1 (rd t455 (ji45)) [.int .i64 (rd t455 (ji45))] (fun k_=>some k_≠(.slice (some ad464) t455.length co58:Value).ownBlock) (fun _=>False) rfl rfl ?aP (fun _ hk=>hk.elim) ?aF ?aO ?aB ?aS ?aL ?_
   (case aP=>exact rfl)
   (case aB=>exact TB)
   (case aF=>exact (fun k_ hk=>Kd.fresh' (Kd.R_lt (RU HO_14.out)) k_ hk))
   (case aO=>exact (RU HO_448001.out))
   (case aS=>exact (below_size TB))
   (case aL=>have:=LMc48.out;omega)
   intro v466 w59 ho hb hg hat
   rw [← Ny465.out] at ho
   replace HO_14:=Am (Kd.R_after (ok:=(fun _=>True)) (RU (Kd.R_mono HO_14.out (fun _ hk=>⟨trivial,hk⟩))) hg hat)
   replace BK445:=Am (blk_grown (g:=gb445) (o:= .cells #[.int .i64 a3_0,.int .i64 a3_1,.int .i64 a3_2,.int .i64 a3_3,.int .i64 a3_4] 25 (0,0)) (blkU BK445.out) hg (Kd.R_ne HO_448001.out BK445.out (by decide)))
   replace BK446:=Am (blk_grown (g:=gb446) (o:= .cells #[.slice none 0 0,.slice none 0 0] 59 (0,0)) (blkU BK446.out) hg (Kd.R_ne HO_448001.out BK446.out (by decide)))
   replace BK447:=Am (blk_grown (g:=gb447) (o:= .cells #[.slice Ao54 y460.length co54,u448001] 59 (0,0)) (blkU BK447.out) hg (Kd.R_ne HO_448001.out BK447.out (by decide)))
   replace HO462:=Am (Kd.R_over' (RU HO462.out) (Kd.R_typed (RU HO_448001.out)) (by decide) hg)
   have HO467:=Am (ho)
   replace HB:=Am (hb)
   clear HO_448001
   clear ho hb hg hat
   obtain ⟨Ao60,co60,eo60⟩:=Kd.R_slice HO467.out
   (first|subst eo60|(injection eo60 with f1_ f2_ f3_;have f4_:=f1_.symm;have f5_:=f3_.symm;clear f1_ f2_ f3_;subst f4_;subst f5_))
   refine hK.out _ _ ?_
   clear hK K
   refine norm_ (a':=?_) ?_ ?_
   rotate_left
   ·
    show Act.put _ (some 81) _=_
    simp only [PT]
    rfl
   refine pureS (i:=14) (N:=some 82) (bl 16 32767) rfl rfl (any_of HT_.out TK) ?_
   refine last_ (i:=15) (N:=none) (bl 16 65535) rfl rfl (one_of HT_.out TK) (by decide) (fun K hK=>?_)
   have hs61:w59.cell? ⟨gb447,1,none⟩=some (u448001):=(blk_cell BK447.out 1).trans rfl
   have hfs61:=blk_frozen BK447.out 1
   have hns61_0:=NB445_447.out
   have hns61_1:=NB446_447.out
   have hms61_0:=NB447_445.out
   have hms61_1:=NB447_446.out
   refine skip_ (w1:=?_) (by rfl) rfl ?_ ?_
   rotate_left
   ·
    go_simp
    rfl
   refine hK.out _ _ ?_
   clear hK K
   refine done_ (done_of HT_.out TK) ?_
   try go_wp2
   go_roundg k1
   case measure=>have:=HK1.out;omega
   case rel=>exact ⟨(wrap64 (x15_1+1)),(y460),(y465),(.slice Ao54 y460.length co54),(.slice Ao60 y465.length co60),TS,H',⟨by have:=HK1.out;omega⟩,⟨RU (Kd.R_mono (Kd.R_far (p:=⟨gb447,1,none⟩) (Kd.R_types HO_14.out BK447.out (by decide)) (fun _ hk=>hk.2) (.slice Ao60 y465.length co60)) (fun _ hk=>hk.1.2))⟩,⟨RU (Kd.R_mono (Kd.R_far (p:=⟨gb447,1,none⟩) (Kd.R_types HO462.out BK447.out (by decide)) (fun _ hk=>hk.2) (.slice Ao60 y465.length co60)) (fun _ hk=>trivial))⟩,⟨RU (Kd.R_mono (Kd.R_far (p:=⟨gb447,1,none⟩) (Kd.R_types HO467.out BK447.out (by decide)) (fun _ hk=>hk.2) (.slice Ao60 y465.length co60)) (fun _ hk=>hk.1))⟩,⟨by refine blk_far ?_ NB445_447.out _;exact BK445.out⟩,⟨by refine blk_far ?_ NB446_447.out _;exact BK446.out⟩,⟨by refine blk_put (cs:= #[.slice Ao54 y460.length co54,u448001]) ?_ 1 _ rfl;exact BK447.out⟩,⟨TB⟩⟩
end Go.Proofs.Yteoaegigjlhamaa.PC19
