/- Chapter 19, printed: what the functions compute, and proofs that they do. -/
import Derived.Test.YteoaegigjlhamaaPC19x0
import Derived.Test.YteoaegigjlhamaaPC19x10
namespace Go.Proofs.Yteoaegigjlhamaa.PC19
open Go.RowKit Go.Proofs.YteoaegigjlhamaaW.PrintWords Go.Proofs.YteoaegigjlhamaaW.PrintLast Go.Proofs.YteoaegigjlhamaaW.PrintMore
attribute [local go_sem] max2_int min2_int max_two min_two max_three min_three max_four min_four
set_option linter.unusedVariables false
set_option maxRecDepth 100000
set_option linter.unusedSimpArgs false
mutual
def q03_inRows.l0:Nat→List Int→Int→Int→Option (Int × Int)
 | 0,_,_,_=>none
 | k+1,x0,x1,x6=>if x6 < (x0.length:Int) then (if 0≤x6 then (q03_inRows.l1 k x0 x1 x6 (rd x0 x6)) else (none)) else (some (0,0))
def q03_inRows.l1:Nat→List Int→Int→Int→Int→Option (Int × Int)
 | 0,_,_,_,_=>none
 | k+1,x0,x1,x6,x7=>if 0≤(wrap64 (x6+1)) then (if (wrap64 (x6+1)) < (x0.length:Int) then (if x7 < (rd x0 (wrap64 (x6+1))) then (if x1=x7 then (some (1,wrap64 (x7+1))) else (if x1=(wrap64 (x7+1)) then (some (2,x7)) else (q03_inRows.l1 k x0 x1 x6 (wrap64 (x7+2))))) else (q03_inRows.l0 k x0 x1 (wrap64 (x6+2)))) else (none)) else (none)
end
def q03_inRows.f (k:Nat) (l0:List Int) (a1:Int):Option (Int × Int):=q03_inRows.l0 k l0 a1 0
theorem q03_inRows.mono_l: ∀ k,(∀ y0 y1 y2,LeO (q03_inRows.l0 k y0 y1 y2) (q03_inRows.l0 (k+1) y0 y1 y2))∧(∀ y0 y1 y2 y3,LeO (q03_inRows.l1 k y0 y1 y2 y3) (q03_inRows.l1 (k+1) y0 y1 y2 y3))
 | 0=>⟨fun _ _ _ r h=>by simp [q03_inRows.l0] at h,fun _ _ _ _ r h=>by simp [q03_inRows.l1] at h⟩
 | k+1=>by
  obtain ⟨ih0,ih1⟩:=q03_inRows.mono_l k
  refine ⟨?_,?_⟩
  ·
   intros
   unfold q03_inRows.l0
   exact TL
  ·
   intros
   unfold q03_inRows.l1
   exact TL
theorem q03_inRows.mono: ∀ a0 a1 k,LeO (q03_inRows.f k a0 a1) (q03_inRows.f (k+1) a0 a1):=by
 intro a0 a1 k
 obtain ⟨ih0,ih1⟩:=q03_inRows.mono_l k
 unfold q03_inRows.f
 repeat' first
   | (with_reducible exact ih0 _ _ _)
   | (with_reducible exact ih1 _ _ _ _)
   | (with_reducible exact LeO.refl _)
   | (with_reducible exact LeO.none _)
   | (with_reducible refine LeO.ite ?_ ?_)
   | (with_reducible refine LeO.bind ?_ (fun _=>?_))
set_option maxHeartbeats 8000000 in
theorem q03_inRows.calls (k:Nat) (A0:Option Addr) (c0:Nat) (l0:List Int) (a1:Int) (r1:Int) (r2:Int) (w:World) (hr0:Kd.C (Kd.int .i64) w A0 l0.length l0) (hc0:l0.length≤c0) (h:q03_inRows.f k l0 a1=some (r1,r2)) :
  Calls Try.prog 91 #[.slice A0 l0.length c0,.int .i64 a1] w fun e w'=>e= .returned (.tuple #[.int .i64 r1,.int .i64 r2])∧Drawn0 w w':=by
 have HR0:=Am hr0
 have HC0:=Am hc0
 clear hr0 hc0
 have H:(q03_inRows.l0 k l0 a1 0)=some (r1,r2):=h
 clear h
 have H':=Am H
 clear H
 go_enter Try.func91,Try.ntmps91
 go_wp2
 go_loopg [6] k (fun kq v6 w'=> ∃ (x6_1:Int),v6= .int .i64 x6_1∧Aside0 (q03_inRows.l0 kq l0 a1 x6_1=some (r1,r2))∧Aside0 (kq≤k)∧Drawn0 w w')
 case atStart=>exact ⟨(0),TS,H',⟨Nat.le_refl _⟩,by repeat (first|exact Drawn0.refl _|apply Drawn0.step)⟩
 case round =>
  clear H'
  obtain ⟨x6_1,rfl,HA,HK1,⟨m1,rfl⟩⟩:=hrel
  cases gk with
  | zero=>exact absurd HA.out (by simp [q03_inRows.l0])
  | succ k1 =>
   have H:=HA.out
   clear HA
   simp only [q03_inRows.l0] at H
   by_cases c3:x6_1 < (l0.length:Int)
   rotate_left
   ·
    rw [if_neg c3] at H
    have c3b0:decide (x6_1 < (l0.length:Int))=false:=decide_eq_false c3
    clear c3
    simp only [Option.some.injEq,Prod.mk.injEq] at H
    obtain ⟨rfl,rfl⟩:=H
    go_wp2
    go_ret2
    exact ⟨by first|rfl|(simp;done)|(simp [*];done),by repeat (first|exact Drawn0.refl _|apply Drawn0.step)⟩
   rw [if_pos c3] at H
   have c3b0:decide (x6_1 < (l0.length:Int))=true:=decide_eq_true c3
   clear c3
   obtain ⟨c4,H⟩:=ifS H
   have c4b0:decide (0≤x6_1)=true:=decide_eq_true c4
   clear c4
   have H':=Am H
   clear H
   have p337:0≤(x6_1:Int):=tD
   have q337:x6_1 < (l0.length:Int):=tD
   obtain ⟨ad337,e337,hx337_0⟩:=Kd.at_int HR0.out x6_1 p337 q337
   cases e337
   replace p337:=eq_true p337
   replace q337:=eq_true q337
   go_wp2
   go_loopg [7] k1 (fun kq v7 w'=> ∃ (x7_2:Int),v7= .int .i64 x7_2∧Aside0 (q03_inRows.l1 kq l0 a1 x6_1 x7_2=some (r1,r2))∧Aside0 (kq≤k1)∧Drawn0 w w')
   case atStart=>exact ⟨(rd l0 x6_1),TS,H',⟨Nat.le_refl _⟩,by repeat (first|exact Drawn0.refl _|apply Drawn0.step)⟩
   case round =>
    clear H'
    obtain ⟨x7_2,rfl,HA,HK2,⟨m2,rfl⟩⟩:=hrel
    cases gk with
    | zero=>exact absurd HA.out (by simp [q03_inRows.l1])
    | succ k2 =>
     have H:=HA.out
     clear HA
     simp only [q03_inRows.l1] at H
     obtain ⟨ji5,hji5⟩: ∃ j_:Int,(wrap64 (x6_1+1))=j_:=⟨_,rfl⟩
     replace H:(if 0≤(ji5) then (if (ji5) < (l0.length:Int) then (if x7_2 < (rd l0 (ji5)) then (if a1=x7_2 then (some (1,wrap64 (x7_2+1))) else (if a1=(wrap64 (x7_2+1)) then (some (2,x7_2)) else (q03_inRows.l1 k2 l0 a1 x6_1 (wrap64 (x7_2+2))))) else (q03_inRows.l0 k2 l0 a1 (wrap64 (x6_1+2)))) else (none)) else (none))=some (r1,r2):=by first|(rw [hji5] at H;exact H)|(simp only [hji5] at H ⊢;exact H)
     have hji5w:(IntKind.i64.wrap (x6_1+1))=ji5:=(i64_w _).trans hji5
     obtain ⟨c6,H⟩:=ifS H
     have c6b0:decide (0≤(ji5))=true:=decide_eq_true c6
     clear c6
     obtain ⟨c7,H⟩:=ifS H
     have c7b0:decide ((ji5) < (l0.length:Int))=true:=decide_eq_true c7
     clear c7
     by_cases c8:x7_2 < (rd l0 (ji5))
     rotate_left
     ·
      rw [if_neg c8] at H
      have c8b0:decide (x7_2 < (rd l0 (ji5)))=false:=decide_eq_false c8
      clear c8
      have H':=Am H
      clear H
      have p338:0≤((ji5):Int):=tD
      have q338:(ji5) < (l0.length:Int):=tD
      obtain ⟨ad338,e338,hx338_0⟩:=Kd.at_int HR0.out (ji5) p338 q338
      obtain rfl:ad337=ad338:=(by injection e338)
      replace p338:=eq_true p338
      replace q338:=eq_true q338
      go_wp2
      go_roundg k2
      case measure=>have:=HK1.out;have:=HK2.out;omega
      case rel=>exact ⟨(wrap64 (x6_1+2)),TS,H',⟨by have:=HK1.out;have:=HK2.out;omega⟩,by repeat (first|exact Drawn0.refl _|apply Drawn0.step)⟩
     rw [if_pos c8] at H
     have c8b0:decide (x7_2 < (rd l0 (ji5)))=true:=decide_eq_true c8
     clear c8
     by_cases c9:a1=x7_2
     ·
      rw [if_pos c9] at H
      have c9b0:(a1==x7_2)=true:=beq_iff_eq.mpr c9
      have c9b1:(a1 !=x7_2)=false:=bne_eq_false_iff_eq.mpr c9
      clear c9
      simp only [Option.some.injEq,Prod.mk.injEq] at H
      obtain ⟨rfl,rfl⟩:=H
      have p338:0≤((ji5):Int):=tD
      have q338:(ji5) < (l0.length:Int):=tD
      obtain ⟨ad338,e338,hx338_0⟩:=Kd.at_int HR0.out (ji5) p338 q338
      obtain rfl:ad337=ad338:=(by injection e338)
      replace p338:=eq_true p338
      replace q338:=eq_true q338
      go_wp2
      go_ret2
      exact ⟨by first|rfl|(simp;done)|(simp only [← hji5] <;> (first|rfl|simp))|(simp [*];done),by repeat (first|exact Drawn0.refl _|apply Drawn0.step)⟩
     rw [if_neg c9] at H
     have c9b0:(a1==x7_2)=false:=beq_eq_false_iff_ne.mpr c9
     have c9b1:(a1 !=x7_2)=true:=bne_iff_ne.mpr c9
     by_cases c10:a1=(wrap64 (x7_2+1))
     rotate_left
     ·
      rw [if_neg c10] at H
      have c10b0:(a1==(wrap64 (x7_2+1)))=false:=beq_eq_false_iff_ne.mpr c10
      have c10b1:(a1 !=(wrap64 (x7_2+1)))=true:=bne_iff_ne.mpr c10
      have H':=Am H
      clear H
      have p338:0≤((ji5):Int):=tD
      have q338:(ji5) < (l0.length:Int):=tD
      obtain ⟨ad338,e338,hx338_0⟩:=Kd.at_int HR0.out (ji5) p338 q338
      obtain rfl:ad337=ad338:=(by injection e338)
      replace p338:=eq_true p338
      replace q338:=eq_true q338
      go_wp2
      go_roundg k2
      case measure=>have:=HK1.out;have:=HK2.out;omega
      case rel=>exact ⟨(wrap64 (x7_2+2)),TS,H',⟨by have:=HK1.out;have:=HK2.out;omega⟩,by repeat (first|exact Drawn0.refl _|apply Drawn0.step)⟩
     rw [if_pos c10] at H
     have c10b0:(a1==(wrap64 (x7_2+1)))=true:=beq_iff_eq.mpr c10
     have c10b1:(a1 !=(wrap64 (x7_2+1)))=false:=bne_eq_false_iff_eq.mpr c10
     clear c10
     simp only [Option.some.injEq,Prod.mk.injEq] at H
     obtain ⟨rfl,rfl⟩:=H
     have p338:0≤((ji5):Int):=tD
     have q338:(ji5) < (l0.length:Int):=tD
     obtain ⟨ad338,e338,hx338_0⟩:=Kd.at_int HR0.out (ji5) p338 q338
     obtain rfl:ad337=ad338:=(by injection e338)
     replace p338:=eq_true p338
     replace q338:=eq_true q338
     go_wp2
     go_ret2
     exact ⟨by first|rfl|(simp;done)|(simp only [← hji5] <;> (first|rfl|simp))|(simp [*];done),by repeat (first|exact Drawn0.refl _|apply Drawn0.step)⟩
def q03_inPairs.l0:Nat→List Int→Int→Int→Option (Int × Int)
 | 0,_,_,_=>none
 | k+1,x0,x1,x6=>if x6 < (x0.length:Int) then (if 0≤x6 then (if x1=(rd x0 x6) then (if 0≤(wrap64 (x6+1)) then (if (wrap64 (x6+1)) < (x0.length:Int) then (some (1,rd x0 (wrap64 (x6+1)))) else (none)) else (none)) else (if 0≤(wrap64 (x6+1)) then (if (wrap64 (x6+1)) < (x0.length:Int) then (if x1=(rd x0 (wrap64 (x6+1))) then (some (2,rd x0 x6)) else (q03_inPairs.l0 k x0 x1 (wrap64 (x6+2)))) else (none)) else (none))) else (none)) else (some (0,0))
def q03_inPairs.f (k:Nat) (l0:List Int) (a1:Int):Option (Int × Int):=q03_inPairs.l0 k l0 a1 0
theorem q03_inPairs.mono_l: ∀ k,(∀ y0 y1 y2,LeO (q03_inPairs.l0 k y0 y1 y2) (q03_inPairs.l0 (k+1) y0 y1 y2))
 | 0=>fun _ _ _ r h=>by simp [q03_inPairs.l0] at h
 | k+1=>by
  have ih0:=q03_inPairs.mono_l k
  ·
   intros
   unfold q03_inPairs.l0
   exact TL
theorem q03_inPairs.mono: ∀ a0 a1 k,LeO (q03_inPairs.f k a0 a1) (q03_inPairs.f (k+1) a0 a1):=by
 intro a0 a1 k
 have ih0:=q03_inPairs.mono_l k
 unfold q03_inPairs.f
 repeat' first
   | (with_reducible exact ih0 _ _ _)
   | (with_reducible exact LeO.refl _)
   | (with_reducible exact LeO.none _)
   | (with_reducible refine LeO.ite ?_ ?_)
   | (with_reducible refine LeO.bind ?_ (fun _=>?_))
set_option maxHeartbeats 8000000 in
theorem q03_inPairs.calls (k:Nat) (A0:Option Addr) (c0:Nat) (l0:List Int) (a1:Int) (r1:Int) (r2:Int) (w:World) (hr0:Kd.C (Kd.int .i64) w A0 l0.length l0) (hc0:l0.length≤c0) (h:q03_inPairs.f k l0 a1=some (r1,r2)) :
  Calls Try.prog 93 #[.slice A0 l0.length c0,.int .i64 a1] w fun e w'=>e= .returned (.tuple #[.int .i64 r1,.int .i64 r2])∧Drawn0 w w':=by
 have HR0:=Am hr0
 have HC0:=Am hc0
 clear hr0 hc0
 have H:(q03_inPairs.l0 k l0 a1 0)=some (r1,r2):=h
 clear h
 have H':=Am H
 clear H
 go_enter Try.func93,Try.ntmps93
 go_wp2
 repeat (go_quiet (fail);try go_wp2)
 go_loopg [6] k (fun kq v6 w'=> ∃ (x6_1:Int),v6= .int .i64 x6_1∧Aside0 (q03_inPairs.l0 kq l0 a1 x6_1=some (r1,r2))∧Aside0 (kq≤k)∧Drawn0 w w')
 case atStart=>exact ⟨(0),TS,H',⟨Nat.le_refl _⟩,by repeat (first|exact Drawn0.refl _|apply Drawn0.step)⟩
 case round =>
  clear H'
  obtain ⟨x6_1,rfl,HA,HK1,⟨m1,rfl⟩⟩:=hrel
  cases gk with
  | zero=>exact absurd HA.out (by simp [q03_inPairs.l0])
  | succ k1 =>
   have H:=HA.out
   clear HA
   simp only [q03_inPairs.l0] at H
   by_cases c3:x6_1 < (l0.length:Int)
   rotate_left
   ·
    rw [if_neg c3] at H
    have c3b0:decide (x6_1 < (l0.length:Int))=false:=decide_eq_false c3
    clear c3
    simp only [Option.some.injEq,Prod.mk.injEq] at H
    obtain ⟨rfl,rfl⟩:=H
    go_wp2
    repeat (go_quiet (fail);try go_wp2)
    go_ret2
    exact ⟨by first|rfl|(simp;done)|(simp [*];done),by repeat (first|exact Drawn0.refl _|apply Drawn0.step)⟩
   rw [if_pos c3] at H
   have c3b0:decide (x6_1 < (l0.length:Int))=true:=decide_eq_true c3
   clear c3
   obtain ⟨c4,H⟩:=ifS H
   have c4b0:decide (0≤x6_1)=true:=decide_eq_true c4
   clear c4
   by_cases c5:a1=(rd l0 x6_1)
   ·
    rw [if_pos c5] at H
    have c5b0:(a1==(rd l0 x6_1))=true:=beq_iff_eq.mpr c5
    have c5b1:(a1 !=(rd l0 x6_1))=false:=bne_eq_false_iff_eq.mpr c5
    clear c5
    obtain ⟨ji6,hji6⟩: ∃ j_:Int,(wrap64 (x6_1+1))=j_:=⟨_,rfl⟩
    replace H:(if 0≤(ji6) then (if (ji6) < (l0.length:Int) then (some (1,rd l0 (ji6))) else (none)) else (none))=some (r1,r2):=by first|(rw [hji6] at H;exact H)|(simp only [hji6] at H ⊢;exact H)
    have hji6w:(IntKind.i64.wrap (x6_1+1))=ji6:=(i64_w _).trans hji6
    obtain ⟨c7,H⟩:=ifS H
    have c7b0:decide (0≤(ji6))=true:=decide_eq_true c7
    clear c7
    obtain ⟨c8,H⟩:=ifS H
    have c8b0:decide ((ji6) < (l0.length:Int))=true:=decide_eq_true c8
    clear c8
    simp only [Option.some.injEq,Prod.mk.injEq] at H
    obtain ⟨rfl,rfl⟩:=H
    have p339:0≤(x6_1:Int):=tD
    have q339:x6_1 < (l0.length:Int):=tD
    obtain ⟨ad339,e339,hx339_0⟩:=Kd.at_int HR0.out x6_1 p339 q339
    cases e339
    replace p339:=eq_true p339
    replace q339:=eq_true q339
    have p340:0≤((ji6):Int):=tD
    have q340:(ji6) < (l0.length:Int):=tD
    obtain ⟨ad340,e340,hx340_0⟩:=Kd.at_int HR0.out (ji6) p340 q340
    obtain rfl:ad339=ad340:=(by injection e340)
    replace p340:=eq_true p340
    replace q340:=eq_true q340
    go_wp2
    repeat (go_quiet (fail);try go_wp2)
    go_ret2
    exact ⟨by first|rfl|(simp;done)|(simp only [← hji6] <;> (first|rfl|simp))|(simp [*];done),by repeat (first|exact Drawn0.refl _|apply Drawn0.step)⟩
   rw [if_neg c5] at H
   have c5b0:(a1==(rd l0 x6_1))=false:=beq_eq_false_iff_ne.mpr c5
   have c5b1:(a1 !=(rd l0 x6_1))=true:=bne_iff_ne.mpr c5
   obtain ⟨ji9,hji9⟩: ∃ j_:Int,(wrap64 (x6_1+1))=j_:=⟨_,rfl⟩
   replace H:(if 0≤(ji9) then (if (ji9) < (l0.length:Int) then (if a1=(rd l0 (ji9)) then (some (2,rd l0 x6_1)) else (q03_inPairs.l0 k1 l0 a1 (wrap64 (x6_1+2)))) else (none)) else (none))=some (r1,r2):=by first|(rw [hji9] at H;exact H)|(simp only [hji9] at H ⊢;exact H)
   have hji9w:(IntKind.i64.wrap (x6_1+1))=ji9:=(i64_w _).trans hji9
   obtain ⟨c10,H⟩:=ifS H
   have c10b0:decide (0≤(ji9))=true:=decide_eq_true c10
   clear c10
   obtain ⟨c11,H⟩:=ifS H
   have c11b0:decide ((ji9) < (l0.length:Int))=true:=decide_eq_true c11
   clear c11
   by_cases c12:a1=(rd l0 (ji9))
   rotate_left
   ·
    rw [if_neg c12] at H
    have c12b0:(a1==(rd l0 (ji9)))=false:=beq_eq_false_iff_ne.mpr c12
    have c12b1:(a1 !=(rd l0 (ji9)))=true:=bne_iff_ne.mpr c12
    have H':=Am H
    clear H
    have p339:0≤(x6_1:Int):=tD
    have q339:x6_1 < (l0.length:Int):=tD
    obtain ⟨ad339,e339,hx339_0⟩:=Kd.at_int HR0.out x6_1 p339 q339
    cases e339
    replace p339:=eq_true p339
    replace q339:=eq_true q339
    have p341:0≤((ji9):Int):=tD
    have q341:(ji9) < (l0.length:Int):=tD
    obtain ⟨ad341,e341,hx341_0⟩:=Kd.at_int HR0.out (ji9) p341 q341
    obtain rfl:ad339=ad341:=(by injection e341)
    replace p341:=eq_true p341
    replace q341:=eq_true q341
    go_wp2
    repeat (go_quiet (fail);try go_wp2)
    go_roundg k1
    case measure=>have:=HK1.out;omega
    case rel=>exact ⟨(wrap64 (x6_1+2)),TS,H',⟨by have:=HK1.out;omega⟩,by repeat (first|exact Drawn0.refl _|apply Drawn0.step)⟩
   rw [if_pos c12] at H
   have c12b0:(a1==(rd l0 (ji9)))=true:=beq_iff_eq.mpr c12
   have c12b1:(a1 !=(rd l0 (ji9)))=false:=bne_eq_false_iff_eq.mpr c12
   clear c12
   simp only [Option.some.injEq,Prod.mk.injEq] at H
   obtain ⟨rfl,rfl⟩:=H
   have p339:0≤(x6_1:Int):=tD
   have q339:x6_1 < (l0.length:Int):=tD
   obtain ⟨ad339,e339,hx339_0⟩:=Kd.at_int HR0.out x6_1 p339 q339
   cases e339
   replace p339:=eq_true p339
   replace q339:=eq_true q339
   have p341:0≤((ji9):Int):=tD
   have q341:(ji9) < (l0.length:Int):=tD
   obtain ⟨ad341,e341,hx341_0⟩:=Kd.at_int HR0.out (ji9) p341 q341
   obtain rfl:ad339=ad341:=(by injection e341)
   replace p341:=eq_true p341
   replace q341:=eq_true q341
   have p342:0≤(x6_1:Int):=tD
   have q342:x6_1 < (l0.length:Int):=tD
   obtain ⟨ad342,e342,hx342_0⟩:=Kd.at_int HR0.out x6_1 p342 q342
   obtain rfl:ad339=ad342:=(by injection e342)
   replace p342:=eq_true p342
   replace q342:=eq_true q342
   go_wp2
   repeat (go_quiet (fail);try go_wp2)
   go_ret2
   exact ⟨by first|rfl|(simp;done)|(simp only [← hji9] <;> (first|rfl|simp))|(simp [*];done),by repeat (first|exact Drawn0.refl _|apply Drawn0.step)⟩
def q03_lone.f (a0:Bool):Option (List Int):=if a0=true then (some (([91,93,123,125,65339,65341,65371,65373]:List Int))) else (some (([60,62,171,187,8249,8250,8712,8715,8713,8716,8714,8717,8764,8765,8866,8867,8912,8913]:List Int)))
set_option maxHeartbeats 8000000 in
theorem q03_lone.calls (a0:Bool) (r:List Int) (w:World) (h:q03_lone.f a0=some r) :
  Calls Try.prog 94 #[.bool a0] w fun e w'=> ∃ v0_:Value,e= .returned (v0_)∧Kd.R (Kd.int .i64) 3 w' w.heap.size (fun _=>True) v0_ r∧Below w.heap.size w w':=by
 have HB:=Am (Below.refl w.heap.size w)
 have H:(if a0=true then (some (([91,93,123,125,65339,65341,65371,65373]:List Int))) else (some (([60,62,171,187,8249,8250,8712,8715,8713,8716,8714,8717,8764,8765,8866,8867,8912,8913]:List Int))))=some r:=h
 clear h
 by_cases c2:a0=true
 ·
  subst c2
  rw [if_pos rfl] at H
  obtain ⟨y343,hy343⟩: ∃ y_:List Int,y_=(([91,93,123,125,65339,65341,65371,65373]:List Int)):=⟨_,rfl⟩
  replace H:(some y343)=some r:=by first|(rw [hy343];with_reducible exact H)|(have H2_:=(Option.bind_some _ _).symm.trans H;rw [hy343];with_reducible exact H2_)|(have H2_:=(Option.bind_some _ _).symm.trans H;with_reducible exact H2_)|with_reducible exact H|(rw [hy343];exact H)|exact H
  have Ny343:=Am hy343
  clear hy343
  obtain rfl:=Option.some.inj H
  go_enter Try.func94,Try.ntmps94
  go_wp2_with (first|((with_reducible refine gate_dst (N:=4) rfl ?_);refine Kd.R_lit (Kd.int .i64) _ 3 ?hg (N:=4) ?hd (xs:=([91,93,123,125,65339,65341,65371,65373]:List Int)) (inner:=[.int .i64 91,.int .i64 93,.int .i64 123,.int .i64 125,.int .i64 65339,.int .i64 65341,.int .i64 65371,.int .i64 65373]) (ok:=fun _=>True) (okp:=fun _=>True) ?hr ?hp (fun _ hk=>hk) trivial (Below.refl _ _) (Nat.le_refl _) (by simp) ?_;(case hd=>rfl);(case hg=>rfl);(case hr=>exact TG);(case hp=>exact (Reps.one (show Kd.M (Kd.int .i64) _ _ _ 91 [.int .i64 91] from rfl) (Reps.one (show Kd.M (Kd.int .i64) _ _ _ 93 [.int .i64 93] from rfl) (Reps.one (show Kd.M (Kd.int .i64) _ _ _ 123 [.int .i64 123] from rfl) (Reps.one (show Kd.M (Kd.int .i64) _ _ _ 125 [.int .i64 125] from rfl) (Reps.one (show Kd.M (Kd.int .i64) _ _ _ 65339 [.int .i64 65339] from rfl) (Reps.one (show Kd.M (Kd.int .i64) _ _ _ 65341 [.int .i64 65341] from rfl) (Reps.one (show Kd.M (Kd.int .i64) _ _ _ 65371 [.int .i64 65371] from rfl) (Reps.one (show Kd.M (Kd.int .i64) _ _ _ 65373 [.int .i64 65373] from rfl) (Reps.none _ _))))))))));intro v344 w3 ho4 hb hg_ hnew_;clear hg_ hnew_;(first|rw [← Ny343.out] at ho4|(simp only [Int.reduceToNat] at ho4;rw [← Ny343.out] at ho4));have HO345:=Am (Kd.R_lower ho4 (below_size TB));replace HB:=Am (below_step TB hb);clear hb ho4))
  go_ret
  exact ⟨_,TE,RU HO345.out,TB⟩
 replace c2:=Bool.eq_false_iff.mpr c2
 subst c2
 rw [if_neg (show ¬ (false=true) by decide)] at H
 obtain ⟨y346,hy346⟩: ∃ y_:List Int,y_=(([60,62,171,187,8249,8250,8712,8715,8713,8716,8714,8717,8764,8765,8866,8867,8912,8913]:List Int)):=⟨_,rfl⟩
 replace H:(some y346)=some r:=by first|(rw [hy346];with_reducible exact H)|(have H2_:=(Option.bind_some _ _).symm.trans H;rw [hy346];with_reducible exact H2_)|(have H2_:=(Option.bind_some _ _).symm.trans H;with_reducible exact H2_)|with_reducible exact H|(rw [hy346];exact H)|exact H
 have Ny346:=Am hy346
 clear hy346
 obtain rfl:=Option.some.inj H
 go_enter Try.func94,Try.ntmps94
 go_wp2_with (first|((with_reducible refine gate_dst (N:=5) rfl ?_);refine Kd.R_lit (Kd.int .i64) _ 3 ?hg (N:=5) ?hd (xs:=([60,62,171,187,8249,8250,8712,8715,8713,8716,8714,8717,8764,8765,8866,8867,8912,8913]:List Int)) (inner:=[.int .i64 60,.int .i64 62,.int .i64 171,.int .i64 187,.int .i64 8249,.int .i64 8250,.int .i64 8712,.int .i64 8715,.int .i64 8713,.int .i64 8716,.int .i64 8714,.int .i64 8717,.int .i64 8764,.int .i64 8765,.int .i64 8866,.int .i64 8867,.int .i64 8912,.int .i64 8913]) (ok:=fun _=>True) (okp:=fun _=>True) ?hr ?hp (fun _ hk=>hk) trivial (Below.refl _ _) (Nat.le_refl _) (by simp) ?_;(case hd=>rfl);(case hg=>rfl);(case hr=>exact TG);(case hp=>exact (Reps.one (show Kd.M (Kd.int .i64) _ _ _ 60 [.int .i64 60] from rfl) (Reps.one (show Kd.M (Kd.int .i64) _ _ _ 62 [.int .i64 62] from rfl) (Reps.one (show Kd.M (Kd.int .i64) _ _ _ 171 [.int .i64 171] from rfl) (Reps.one (show Kd.M (Kd.int .i64) _ _ _ 187 [.int .i64 187] from rfl) (Reps.one (show Kd.M (Kd.int .i64) _ _ _ 8249 [.int .i64 8249] from rfl) (Reps.one (show Kd.M (Kd.int .i64) _ _ _ 8250 [.int .i64 8250] from rfl) (Reps.one (show Kd.M (Kd.int .i64) _ _ _ 8712 [.int .i64 8712] from rfl) (Reps.one (show Kd.M (Kd.int .i64) _ _ _ 8715 [.int .i64 8715] from rfl) (Reps.one (show Kd.M (Kd.int .i64) _ _ _ 8713 [.int .i64 8713] from rfl) (Reps.one (show Kd.M (Kd.int .i64) _ _ _ 8716 [.int .i64 8716] from rfl) (Reps.one (show Kd.M (Kd.int .i64) _ _ _ 8714 [.int .i64 8714] from rfl) (Reps.one (show Kd.M (Kd.int .i64) _ _ _ 8717 [.int .i64 8717] from rfl) (Reps.one (show Kd.M (Kd.int .i64) _ _ _ 8764 [.int .i64 8764] from rfl) (Reps.one (show Kd.M (Kd.int .i64) _ _ _ 8765 [.int .i64 8765] from rfl) (Reps.one (show Kd.M (Kd.int .i64) _ _ _ 8866 [.int .i64 8866] from rfl) (Reps.one (show Kd.M (Kd.int .i64) _ _ _ 8867 [.int .i64 8867] from rfl) (Reps.one (show Kd.M (Kd.int .i64) _ _ _ 8912 [.int .i64 8912] from rfl) (Reps.one (show Kd.M (Kd.int .i64) _ _ _ 8913 [.int .i64 8913] from rfl) (Reps.none _ _))))))))))))))))))));intro v347 w5 ho6 hb hg_ hnew_;clear hg_ hnew_;(first|rw [← Ny346.out] at ho6|(simp only [Int.reduceToNat] at ho6;rw [← Ny346.out] at ho6));have HO348:=Am (Kd.R_lower ho6 (below_size TB));replace HB:=Am (below_step TB hb);clear hb ho6))
 go_ret
 exact ⟨_,TE,RU HO348.out,TB⟩
def q03_brackets.f:Option (List Int):=some (([40,41,3898,3901,5787,5788,8261,8262,8317,8318,8333,8334,8968,8971,9001,9002,10088,10101,10181,10182,10214,10223,10627,10636,10641,10648,10712,10715,10748,10749,11810,11817,12296,12305,12308,12315,65113,65118,65288,65289,65375,65376,65378,65379]:List Int))
set_option maxHeartbeats 8000000 in
theorem q03_brackets.calls (r:List Int) (w:World) (h:q03_brackets.f=some r) :
  Calls Try.prog 105 #[] w fun e w'=> ∃ v0_:Value,e= .returned (v0_)∧Kd.R (Kd.int .i64) 3 w' w.heap.size (fun _=>True) v0_ r∧Below w.heap.size w w':=by
 have HB:=Am (Below.refl w.heap.size w)
 have H:(some (([40,41,3898,3901,5787,5788,8261,8262,8317,8318,8333,8334,8968,8971,9001,9002,10088,10101,10181,10182,10214,10223,10627,10636,10641,10648,10712,10715,10748,10749,11810,11817,12296,12305,12308,12315,65113,65118,65288,65289,65375,65376,65378,65379]:List Int)))=some r:=h
 clear h
 obtain ⟨y349,hy349⟩: ∃ y_:List Int,y_=(([40,41,3898,3901,5787,5788,8261,8262,8317,8318,8333,8334,8968,8971,9001,9002,10088,10101,10181,10182,10214,10223,10627,10636,10641,10648,10712,10715,10748,10749,11810,11817,12296,12305,12308,12315,65113,65118,65288,65289,65375,65376,65378,65379]:List Int)):=⟨_,rfl⟩
 replace H:(some y349)=some r:=by first|(rw [hy349];with_reducible exact H)|(have H2_:=(Option.bind_some _ _).symm.trans H;rw [hy349];with_reducible exact H2_)|(have H2_:=(Option.bind_some _ _).symm.trans H;with_reducible exact H2_)|with_reducible exact H|(rw [hy349];exact H)|exact H
 have Ny349:=Am hy349
 clear hy349
 obtain rfl:=Option.some.inj H
 go_enter Try.func105,Try.ntmps105
 go_wp2_with (first|((with_reducible refine gate_dst (N:=1) rfl ?_);refine Kd.R_lit (Kd.int .i64) _ 3 ?hg (N:=1) ?hd (xs:=([40,41,3898,3901,5787,5788,8261,8262,8317,8318,8333,8334,8968,8971,9001,9002,10088,10101,10181,10182,10214,10223,10627,10636,10641,10648,10712,10715,10748,10749,11810,11817,12296,12305,12308,12315,65113,65118,65288,65289,65375,65376,65378,65379]:List Int)) (inner:=[.int .i64 40,.int .i64 41,.int .i64 3898,.int .i64 3901,.int .i64 5787,.int .i64 5788,.int .i64 8261,.int .i64 8262,.int .i64 8317,.int .i64 8318,.int .i64 8333,.int .i64 8334,.int .i64 8968,.int .i64 8971,.int .i64 9001,.int .i64 9002,.int .i64 10088,.int .i64 10101,.int .i64 10181,.int .i64 10182,.int .i64 10214,.int .i64 10223,.int .i64 10627,.int .i64 10636,.int .i64 10641,.int .i64 10648,.int .i64 10712,.int .i64 10715,.int .i64 10748,.int .i64 10749,.int .i64 11810,.int .i64 11817,.int .i64 12296,.int .i64 12305,.int .i64 12308,.int .i64 12315,.int .i64 65113,.int .i64 65118,.int .i64 65288,.int .i64 65289,.int .i64 65375,.int .i64 65376,.int .i64 65378,.int .i64 65379]) (ok:=fun _=>True) (okp:=fun _=>True) ?hr ?hp (fun _ hk=>hk) trivial (Below.refl _ _) (Nat.le_refl _) (by simp) ?_;(case hd=>rfl);(case hg=>rfl);(case hr=>exact TG);(case hp=>exact (Reps.one (show Kd.M (Kd.int .i64) _ _ _ 40 [.int .i64 40] from rfl) (Reps.one (show Kd.M (Kd.int .i64) _ _ _ 41 [.int .i64 41] from rfl) (Reps.one (show Kd.M (Kd.int .i64) _ _ _ 3898 [.int .i64 3898] from rfl) (Reps.one (show Kd.M (Kd.int .i64) _ _ _ 3901 [.int .i64 3901] from rfl) (Reps.one (show Kd.M (Kd.int .i64) _ _ _ 5787 [.int .i64 5787] from rfl) (Reps.one (show Kd.M (Kd.int .i64) _ _ _ 5788 [.int .i64 5788] from rfl) (Reps.one (show Kd.M (Kd.int .i64) _ _ _ 8261 [.int .i64 8261] from rfl) (Reps.one (show Kd.M (Kd.int .i64) _ _ _ 8262 [.int .i64 8262] from rfl) (Reps.one (show Kd.M (Kd.int .i64) _ _ _ 8317 [.int .i64 8317] from rfl) (Reps.one (show Kd.M (Kd.int .i64) _ _ _ 8318 [.int .i64 8318] from rfl) (Reps.one (show Kd.M (Kd.int .i64) _ _ _ 8333 [.int .i64 8333] from rfl) (Reps.one (show Kd.M (Kd.int .i64) _ _ _ 8334 [.int .i64 8334] from rfl) (Reps.one (show Kd.M (Kd.int .i64) _ _ _ 8968 [.int .i64 8968] from rfl) (Reps.one (show Kd.M (Kd.int .i64) _ _ _ 8971 [.int .i64 8971] from rfl) (Reps.one (show Kd.M (Kd.int .i64) _ _ _ 9001 [.int .i64 9001] from rfl) (Reps.one (show Kd.M (Kd.int .i64) _ _ _ 9002 [.int .i64 9002] from rfl) (Reps.one (show Kd.M (Kd.int .i64) _ _ _ 10088 [.int .i64 10088] from rfl) (Reps.one (show Kd.M (Kd.int .i64) _ _ _ 10101 [.int .i64 10101] from rfl) (Reps.one (show Kd.M (Kd.int .i64) _ _ _ 10181 [.int .i64 10181] from rfl) (Reps.one (show Kd.M (Kd.int .i64) _ _ _ 10182 [.int .i64 10182] from rfl) (Reps.one (show Kd.M (Kd.int .i64) _ _ _ 10214 [.int .i64 10214] from rfl) (Reps.one (show Kd.M (Kd.int .i64) _ _ _ 10223 [.int .i64 10223] from rfl) (Reps.one (show Kd.M (Kd.int .i64) _ _ _ 10627 [.int .i64 10627] from rfl) (Reps.one (show Kd.M (Kd.int .i64) _ _ _ 10636 [.int .i64 10636] from rfl) (Reps.one (show Kd.M (Kd.int .i64) _ _ _ 10641 [.int .i64 10641] from rfl) (Reps.one (show Kd.M (Kd.int .i64) _ _ _ 10648 [.int .i64 10648] from rfl) (Reps.one (show Kd.M (Kd.int .i64) _ _ _ 10712 [.int .i64 10712] from rfl) (Reps.one (show Kd.M (Kd.int .i64) _ _ _ 10715 [.int .i64 10715] from rfl) (Reps.one (show Kd.M (Kd.int .i64) _ _ _ 10748 [.int .i64 10748] from rfl) (Reps.one (show Kd.M (Kd.int .i64) _ _ _ 10749 [.int .i64 10749] from rfl) (Reps.one (show Kd.M (Kd.int .i64) _ _ _ 11810 [.int .i64 11810] from rfl) (Reps.one (show Kd.M (Kd.int .i64) _ _ _ 11817 [.int .i64 11817] from rfl) (Reps.one (show Kd.M (Kd.int .i64) _ _ _ 12296 [.int .i64 12296] from rfl) (Reps.one (show Kd.M (Kd.int .i64) _ _ _ 12305 [.int .i64 12305] from rfl) (Reps.one (show Kd.M (Kd.int .i64) _ _ _ 12308 [.int .i64 12308] from rfl) (Reps.one (show Kd.M (Kd.int .i64) _ _ _ 12315 [.int .i64 12315] from rfl) (Reps.one (show Kd.M (Kd.int .i64) _ _ _ 65113 [.int .i64 65113] from rfl) (Reps.one (show Kd.M (Kd.int .i64) _ _ _ 65118 [.int .i64 65118] from rfl) (Reps.one (show Kd.M (Kd.int .i64) _ _ _ 65288 [.int .i64 65288] from rfl) (Reps.one (show Kd.M (Kd.int .i64) _ _ _ 65289 [.int .i64 65289] from rfl) (Reps.one (show Kd.M (Kd.int .i64) _ _ _ 65375 [.int .i64 65375] from rfl) (Reps.one (show Kd.M (Kd.int .i64) _ _ _ 65376 [.int .i64 65376] from rfl) (Reps.one (show Kd.M (Kd.int .i64) _ _ _ 65378 [.int .i64 65378] from rfl) (Reps.one (show Kd.M (Kd.int .i64) _ _ _ 65379 [.int .i64 65379] from rfl) (Reps.none _ _))))))))))))))))))))))))))))))))))))))))))))));intro v350 w1 ho2 hb hg_ hnew_;clear hg_ hnew_;(first|rw [← Ny349.out] at ho2|(simp only [Int.reduceToNat] at ho2;rw [← Ny349.out] at ho2));have HO351:=Am (Kd.R_lower ho2 (below_size TB));replace HB:=Am (below_step TB hb);clear hb ho2))
 go_ret
 exact ⟨_,TE,RU HO351.out,TB⟩
def q03_Pair.f (k:Nat) (a0:Int):Option (Int × Int):=(q03_brackets.f).bind fun t352=>((q03_inRows.f k t352 a0).bind fun bt355=>(if bt355.1=0 then ((q03_lone.f true).bind fun t357=>((q03_inPairs.f k t357 a0).bind fun bt360=>(some (bt360.1,bt360.2)))) else (some (bt355.1,bt355.2))))
theorem q03_Pair.mono: ∀ a0 k,LeO (q03_Pair.f k a0) (q03_Pair.f (k+1) a0):=by
 intros
 unfold q03_Pair.f
 have j0:=@q03_inPairs.mono
 have j1:=@q03_inRows.mono
 exact TL
set_option maxHeartbeats 8000000 in
theorem q03_Pair.calls (k:Nat) (a0:Int) (r1:Int) (r2:Int) (w:World) (h:q03_Pair.f k a0=some (r1,r2)) :
  Calls Try.prog 90 #[.int .i64 a0] w fun e w'=>e= .returned (.tuple #[.int .i64 r1,.int .i64 r2])∧Below w.heap.size w w':=by
 have HB:=Am (Below.refl w.heap.size w)
 have H:((q03_brackets.f).bind fun t352=>((q03_inRows.f k t352 a0).bind fun bt355=>(if bt355.1=0 then ((q03_lone.f true).bind fun t357=>((q03_inPairs.f k t357 a0).bind fun bt360=>(some (bt360.1,bt360.2)))) else (some (bt355.1,bt355.2)))))=some (r1,r2):=h
 clear h
 obtain ⟨t352,A20,H⟩:=Option.bind_eq_some_iff.mp H
 try dsimp only at H
 have A2:=Am A20
 clear A20
 replace H:=Option.bind_eq_some_iff.mp H
 obtain ⟨⟨t355,t356⟩,A30,H⟩:=H
 try dsimp only at H
 have A3:=Am A30
 clear A30
 by_cases c4:t355=0
 rotate_left
 ·
  rw [if_neg c4] at H
  have c4b0:(t355==0)=false:=beq_eq_false_iff_ne.mpr c4
  have c4b1:(t355 !=0)=true:=bne_iff_ne.mpr c4
  simp only [Option.some.injEq,Prod.mk.injEq] at H
  obtain ⟨rfl,rfl⟩:=H
  go_enter Try.func90,Try.ntmps90
  go_wp2_with (first|((with_reducible refine gate_callee (f:=105) rfl ?_);refine goesL_ (some 7) rfl rfl Try.func105 TK rfl #[] rfl TM ?_;(with_reducible refine (q03_brackets.calls t352 _ A2.out).mono ?_);rintro e w11 ⟨v353,rfl,ho0,hb⟩;refine ⟨_,rfl,?_⟩;have HO354:=Am (Kd.R_lower ho0 (below_size TB));replace HB:=Am (below_step TB hb);(try clear hb);(try clear hb2);(try clear hk);(try clear hi);(try clear ho0);obtain ⟨Ao12,co12,eo12⟩:=Kd.R_slice HO354.out;subst eo12)|((with_reducible refine gate_callee (f:=91) rfl ?_);refine goesL_ (some 9) rfl rfl Try.func91 TK rfl #[.slice Ao12 t352.length co12,.int .i64 a0] rfl TM ?_;(with_reducible refine (q03_inRows.calls k _ _ t352 a0 t355 t356 _ ?side1 ?side2 A3.out).mono ?_);(case side1=>exact CU ((Kd.R_reads' HO354.out).2.2));(case side2=>exact (Kd.R_reads' HO354.out).2.1);rintro e w' ⟨rfl,⟨nd,rfl⟩⟩;refine ⟨_,rfl,?_⟩))
  go_ret2
  exact ⟨TE,TB⟩
 rw [if_pos c4] at H
 have c4b0:(t355==0)=true:=beq_iff_eq.mpr c4
 have c4b1:(t355 !=0)=false:=bne_eq_false_iff_eq.mpr c4
 clear c4
 obtain ⟨t357,A50,H⟩:=Option.bind_eq_some_iff.mp H
 try dsimp only at H
 have A5:=Am A50
 clear A50
 replace H:=Option.bind_eq_some_iff.mp H
 obtain ⟨⟨t360,t361⟩,A60,H⟩:=H
 try dsimp only at H
 have A6:=Am A60
 clear A60
 simp only [Option.some.injEq,Prod.mk.injEq] at H
 obtain ⟨rfl,rfl⟩:=H
 go_enter Try.func90,Try.ntmps90
 go_wp2_with (first|((with_reducible refine gate_callee (f:=105) rfl ?_);refine goesL_ (some 7) rfl rfl Try.func105 TK rfl #[] rfl TM ?_;(with_reducible refine (q03_brackets.calls t352 _ A2.out).mono ?_);rintro e w7 ⟨v353,rfl,ho0,hb⟩;refine ⟨_,rfl,?_⟩;have HO354:=Am (Kd.R_lower ho0 (below_size TB));replace HB:=Am (below_step TB hb);(try clear hb);(try clear hb2);(try clear hk);(try clear hi);(try clear ho0);obtain ⟨Ao8,co8,eo8⟩:=Kd.R_slice HO354.out;subst eo8)|((with_reducible refine gate_callee (f:=91) rfl ?_);refine goesL_ (some 9) rfl rfl Try.func91 TK rfl #[.slice Ao8 t352.length co8,.int .i64 a0] rfl TM ?_;(with_reducible refine (q03_inRows.calls k _ _ t352 a0 t355 t356 _ ?side1 ?side2 A3.out).mono ?_);(case side1=>exact CU ((Kd.R_reads' HO354.out).2.2));(case side2=>exact (Kd.R_reads' HO354.out).2.1);rintro e w' ⟨rfl,⟨nd,rfl⟩⟩;refine ⟨_,rfl,?_⟩)|((with_reducible refine gate_callee (f:=94) rfl ?_);refine goesL_ (some 15) rfl rfl Try.func94 TK rfl #[.bool true] rfl TM ?_;(with_reducible refine (q03_lone.calls true t357 _ A5.out).mono ?_);rintro e w9 ⟨v358,rfl,ho0,hb⟩;refine ⟨_,rfl,?_⟩;have HO359:=Am (Kd.R_lower (Kd.R_new' ho0 (Kd.R_lt (RU HO354.out))) (below_size TB));replace HO354:=Am (Kd.R_elder' (RU HO354.out) (Kd.R_base ho0) hb);replace HB:=Am (below_step TB hb);(try clear hb);(try clear hb2);(try clear hk);(try clear hi);(try clear ho0);obtain ⟨Ao10,co10,eo10⟩:=Kd.R_slice HO359.out;subst eo10)|((with_reducible refine gate_callee (f:=93) rfl ?_);refine goesL_ (some 17) rfl rfl Try.func93 TK rfl #[.slice Ao10 t357.length co10,.int .i64 a0] rfl TM ?_;(with_reducible refine (q03_inPairs.calls k _ _ t357 a0 t360 t361 _ ?side1 ?side2 A6.out).mono ?_);(case side1=>exact CU ((Kd.R_reads' HO359.out).2.2));(case side2=>exact (Kd.R_reads' HO359.out).2.1);rintro e w' ⟨rfl,⟨nd,rfl⟩⟩;refine ⟨_,rfl,?_⟩))
 go_ret2
 exact ⟨TE,TB⟩
def q03_others.f:Option (List Int):=some (([8804,8811,8814,8833,8834,8841,8847,8850,8882,8885,8918,8927,8928,8941]:List Int))
set_option maxHeartbeats 8000000 in
theorem q03_others.calls (r:List Int) (w:World) (h:q03_others.f=some r) :
  Calls Try.prog 92 #[] w fun e w'=> ∃ v0_:Value,e= .returned (v0_)∧Kd.R (Kd.int .i64) 3 w' w.heap.size (fun _=>True) v0_ r∧Below w.heap.size w w':=by
 have HB:=Am (Below.refl w.heap.size w)
 have H:(some (([8804,8811,8814,8833,8834,8841,8847,8850,8882,8885,8918,8927,8928,8941]:List Int)))=some r:=h
 clear h
 obtain ⟨y362,hy362⟩: ∃ y_:List Int,y_=(([8804,8811,8814,8833,8834,8841,8847,8850,8882,8885,8918,8927,8928,8941]:List Int)):=⟨_,rfl⟩
 replace H:(some y362)=some r:=by first|(rw [hy362];with_reducible exact H)|(have H2_:=(Option.bind_some _ _).symm.trans H;rw [hy362];with_reducible exact H2_)|(have H2_:=(Option.bind_some _ _).symm.trans H;with_reducible exact H2_)|with_reducible exact H|(rw [hy362];exact H)|exact H
 have Ny362:=Am hy362
 clear hy362
 obtain rfl:=Option.some.inj H
 go_enter Try.func92,Try.ntmps92
 go_wp2_with (first|((with_reducible refine gate_dst (N:=1) rfl ?_);refine Kd.R_lit (Kd.int .i64) _ 3 ?hg (N:=1) ?hd (xs:=([8804,8811,8814,8833,8834,8841,8847,8850,8882,8885,8918,8927,8928,8941]:List Int)) (inner:=[.int .i64 8804,.int .i64 8811,.int .i64 8814,.int .i64 8833,.int .i64 8834,.int .i64 8841,.int .i64 8847,.int .i64 8850,.int .i64 8882,.int .i64 8885,.int .i64 8918,.int .i64 8927,.int .i64 8928,.int .i64 8941]) (ok:=fun _=>True) (okp:=fun _=>True) ?hr ?hp (fun _ hk=>hk) trivial (Below.refl _ _) (Nat.le_refl _) (by simp) ?_;(case hd=>rfl);(case hg=>rfl);(case hr=>exact TG);(case hp=>exact (Reps.one (show Kd.M (Kd.int .i64) _ _ _ 8804 [.int .i64 8804] from rfl) (Reps.one (show Kd.M (Kd.int .i64) _ _ _ 8811 [.int .i64 8811] from rfl) (Reps.one (show Kd.M (Kd.int .i64) _ _ _ 8814 [.int .i64 8814] from rfl) (Reps.one (show Kd.M (Kd.int .i64) _ _ _ 8833 [.int .i64 8833] from rfl) (Reps.one (show Kd.M (Kd.int .i64) _ _ _ 8834 [.int .i64 8834] from rfl) (Reps.one (show Kd.M (Kd.int .i64) _ _ _ 8841 [.int .i64 8841] from rfl) (Reps.one (show Kd.M (Kd.int .i64) _ _ _ 8847 [.int .i64 8847] from rfl) (Reps.one (show Kd.M (Kd.int .i64) _ _ _ 8850 [.int .i64 8850] from rfl) (Reps.one (show Kd.M (Kd.int .i64) _ _ _ 8882 [.int .i64 8882] from rfl) (Reps.one (show Kd.M (Kd.int .i64) _ _ _ 8885 [.int .i64 8885] from rfl) (Reps.one (show Kd.M (Kd.int .i64) _ _ _ 8918 [.int .i64 8918] from rfl) (Reps.one (show Kd.M (Kd.int .i64) _ _ _ 8927 [.int .i64 8927] from rfl) (Reps.one (show Kd.M (Kd.int .i64) _ _ _ 8928 [.int .i64 8928] from rfl) (Reps.one (show Kd.M (Kd.int .i64) _ _ _ 8941 [.int .i64 8941] from rfl) (Reps.none _ _))))))))))))))));intro v363 w1 ho2 hb hg_ hnew_;clear hg_ hnew_;(first|rw [← Ny362.out] at ho2|(simp only [Int.reduceToNat] at ho2;rw [← Ny362.out] at ho2));have HO364:=Am (Kd.R_lower ho2 (below_size TB));replace HB:=Am (below_step TB hb);clear hb ho2))
 go_ret
 exact ⟨_,TE,RU HO364.out,TB⟩
def q03_Glyph.j0:Nat→Int→Int→Int→Option (Int)
 | 0,_,_,_=>none
 | k+1,x0,x3,x4=>if x3=0 then ((q03_lone.f false).bind fun t372=>((q03_inPairs.f k t372 x0).bind fun bt375=>(if bt375.1=0 then (some x0) else (some bt375.2)))) else (some x4)
def q03_Glyph.f (k:Nat) (a0:Int):Option (Int):=(q03_Pair.f k a0).bind fun bt365=>(if bt365.1=0 then ((q03_others.f).bind fun t367=>((q03_inRows.f k t367 a0).bind fun bt370=>(q03_Glyph.j0 k a0 bt370.1 bt370.2))) else (q03_Glyph.j0 k a0 bt365.1 bt365.2))
theorem q03_Glyph.mono_l: ∀ k,(∀ y0 y1 y2,LeO (q03_Glyph.j0 k y0 y1 y2) (q03_Glyph.j0 (k+1) y0 y1 y2))
 | 0=>fun _ _ _ r h=>by simp [q03_Glyph.j0] at h
 | k+1=>by
  have ih0:=q03_Glyph.mono_l k
  ·
   intros
   unfold q03_Glyph.j0
   have j0:=@q03_Pair.mono
   have j1:=@q03_inPairs.mono
   have j2:=@q03_inRows.mono
   exact TL
theorem q03_Glyph.mono: ∀ a0 k,LeO (q03_Glyph.f k a0) (q03_Glyph.f (k+1) a0):=by
 intro a0 k
 have ih0:=q03_Glyph.mono_l k
 unfold q03_Glyph.f
 repeat' first
   | (with_reducible exact ih0 _ _ _)
   | (with_reducible exact q03_Pair.mono _ _)
   | (with_reducible exact q03_inPairs.mono _ _ _)
   | (with_reducible exact q03_inRows.mono _ _ _)
   | (with_reducible exact LeO.refl _)
   | (with_reducible exact LeO.none _)
   | (with_reducible refine LeO.ite ?_ ?_)
   | (with_reducible refine LeO.bind ?_ (fun _=>?_))
set_option maxHeartbeats 8000000 in
theorem q03_Glyph.calls (k:Nat) (a0:Int) (r:Int) (w:World) (h:q03_Glyph.f k a0=some r) :
  Calls Try.prog 62 #[.int .i64 a0] w fun e w'=>e= .returned (.int .i64 r)∧Below w.heap.size w w':=by
 have HB:=Am (Below.refl w.heap.size w)
 have H:((q03_Pair.f k a0).bind fun bt365=>(if bt365.1=0 then ((q03_others.f).bind fun t367=>((q03_inRows.f k t367 a0).bind fun bt370=>(q03_Glyph.j0 k a0 bt370.1 bt370.2))) else (q03_Glyph.j0 k a0 bt365.1 bt365.2)))=some r:=h
 clear h
 replace H:=Option.bind_eq_some_iff.mp H
 obtain ⟨⟨t365,t366⟩,A20,H⟩:=H
 try dsimp only at H
 have A2:=Am A20
 clear A20
 have HC3:=Am H
 clear H
 go_enter Try.func62,Try.ntmps62
 go_upto_if 11 with (first|((with_reducible refine gate_callee (f:=90) rfl ?_);refine goesL_ (some 7) rfl rfl Try.func90 TK rfl #[.int .i64 a0] rfl TM ?_;(with_reducible refine (q03_Pair.calls k a0 t365 t366 _ A2.out).mono ?_);rintro e w4 ⟨rfl,hb⟩;refine ⟨_,rfl,?_⟩;replace HB:=Am (below_step TB hb);(try clear hb);(try clear hb2);(try clear hk);(try clear hi)))
 (try simp only [Act.put,List.setIfInBounds_toArray,List.set_cons_zero,List.set_cons_succ])
 go_cut [3,4] (fun v3 v4 wc=> ∃ (kq:Nat) (x3_2:Int) (x4_2:Int),v3= .int .i64 x3_2∧v4= .int .i64 x4_2∧Aside0 (q03_Glyph.j0 kq a0 x3_2 x4_2=some r)∧Aside0 (kq≤k)∧Aside0 (Below w.heap.size w wc))
 case first =>
  have H:=HC3.out
  clear HC3
  by_cases c5:t365=0
  rotate_left
  ·
   rw [if_neg c5] at H
   have c5b0:(t365==0)=false:=beq_eq_false_iff_ne.mpr c5
   have c5b1:(t365 !=0)=true:=bne_iff_ne.mpr c5
   (first|rw [c5b0]|(simp only [i64_w,i32_w];rw [c5b0])|skip)
   have H':=Am H
   clear H
   go_wp2
   go_meet
   case rel=>exact ⟨_,(t365),(t366),TS,TS,H',⟨by first|omega|exact Nat.le_refl _⟩,⟨TB⟩⟩
  rw [if_pos c5] at H
  have c5b0:(t365==0)=true:=beq_iff_eq.mpr c5
  have c5b1:(t365 !=0)=false:=bne_eq_false_iff_eq.mpr c5
  clear c5
  (first|rw [c5b0]|(simp only [i64_w,i32_w];rw [c5b0])|skip)
  obtain ⟨t367,A60,H⟩:=Option.bind_eq_some_iff.mp H
  try dsimp only at H
  have A6:=Am A60
  clear A60
  replace H:=Option.bind_eq_some_iff.mp H
  obtain ⟨⟨t370,t371⟩,A70,H⟩:=H
  try dsimp only at H
  have A7:=Am A70
  clear A70
  have H':=Am H
  clear H
  go_wp2_with (first|((with_reducible refine gate_callee (f:=92) rfl ?_);refine goesL_ (some 13) rfl rfl Try.func92 TK rfl #[] rfl TM ?_;(with_reducible refine (q03_others.calls t367 _ A6.out).mono ?_);rintro e w8 ⟨v368,rfl,ho0,hb⟩;refine ⟨_,rfl,?_⟩;have HO369:=Am (Kd.R_lower ho0 (below_size TB));replace HB:=Am (below_step TB hb);(try clear hb);(try clear hb2);(try clear hk);(try clear hi);(try clear ho0);obtain ⟨Ao9,co9,eo9⟩:=Kd.R_slice HO369.out;subst eo9)|((with_reducible refine gate_callee (f:=91) rfl ?_);refine goesL_ (some 15) rfl rfl Try.func91 TK rfl #[.slice Ao9 t367.length co9,.int .i64 a0] rfl TM ?_;(with_reducible refine (q03_inRows.calls k _ _ t367 a0 t370 t371 _ ?side1 ?side2 A7.out).mono ?_);(case side1=>exact CU ((Kd.R_reads' HO369.out).2.2));(case side2=>exact (Kd.R_reads' HO369.out).2.1);rintro e w' ⟨rfl,⟨nd,rfl⟩⟩;refine ⟨_,rfl,?_⟩))
  go_meet
  case rel=>exact ⟨_,(t370),(t371),TS,TS,H',⟨by first|omega|exact Nat.le_refl _⟩,⟨TB⟩⟩
 case rest =>
  clear HC3
  obtain ⟨kq,x3_2,x4_2,rfl,rfl,HA,HJ2,HB⟩:=hcut
  cases kq with
  | zero=>exact absurd HA.out (by simp [q03_Glyph.j0])
  | succ kj2 =>
   have H:=HA.out
   clear HA
   simp only [q03_Glyph.j0] at H
   by_cases c10:x3_2=0
   rotate_left
   ·
    rw [if_neg c10] at H
    have c10b0:(x3_2==0)=false:=beq_eq_false_iff_ne.mpr c10
    have c10b1:(x3_2 !=0)=true:=bne_iff_ne.mpr c10
    obtain rfl:=Option.some.inj H
    go_wp2
    go_ret
    exact ⟨TE,TB⟩
   rw [if_pos c10] at H
   have c10b0:(x3_2==0)=true:=beq_iff_eq.mpr c10
   have c10b1:(x3_2 !=0)=false:=bne_eq_false_iff_eq.mpr c10
   clear c10
   obtain ⟨t372,A110,H⟩:=Option.bind_eq_some_iff.mp H
   try dsimp only at H
   have A11:=Am A110
   clear A110
   replace H:=Option.bind_eq_some_iff.mp H
   obtain ⟨⟨t375,t376⟩,A120,H⟩:=H
   try dsimp only at H
   have A12:=Am A120
   clear A120
   by_cases c13:t375=0
   rotate_left
   ·
    rw [if_neg c13] at H
    have c13b0:(t375==0)=false:=beq_eq_false_iff_ne.mpr c13
    have c13b1:(t375 !=0)=true:=bne_iff_ne.mpr c13
    obtain rfl:=Option.some.inj H
    go_wp2_with (first|((with_reducible refine gate_callee (f:=94) rfl ?_);refine goesL_ (some 21) rfl rfl Try.func94 TK rfl #[.bool false] rfl TM ?_;(with_reducible refine (q03_lone.calls false t372 _ A11.out).mono ?_);rintro e w16 ⟨v373,rfl,ho0,hb⟩;refine ⟨_,rfl,?_⟩;have HO374:=Am (Kd.R_lower ho0 (below_size TB));replace HB:=Am (below_step TB hb);(try clear hb);(try clear hb2);(try clear hk);(try clear hi);(try clear ho0);obtain ⟨Ao17,co17,eo17⟩:=Kd.R_slice HO374.out;subst eo17)|((with_reducible refine gate_callee (f:=93) rfl ?_);refine goesL_ (some 23) rfl rfl Try.func93 TK rfl #[.slice Ao17 t372.length co17,.int .i64 a0] rfl TM ?_;(with_reducible refine (q03_inPairs.calls kj2 _ _ t372 a0 t375 t376 _ ?side1 ?side2 A12.out).mono ?_);(case side1=>exact CU ((Kd.R_reads' HO374.out).2.2));(case side2=>exact (Kd.R_reads' HO374.out).2.1);rintro e w' ⟨rfl,⟨nd,rfl⟩⟩;refine ⟨_,rfl,?_⟩))
    go_ret
    exact ⟨TE,TB⟩
   rw [if_pos c13] at H
   have c13b0:(t375==0)=true:=beq_iff_eq.mpr c13
   have c13b1:(t375 !=0)=false:=bne_eq_false_iff_eq.mpr c13
   clear c13
   obtain rfl:=Option.some.inj H
   go_wp2_with (first|((with_reducible refine gate_callee (f:=94) rfl ?_);refine goesL_ (some 21) rfl rfl Try.func94 TK rfl #[.bool false] rfl TM ?_;(with_reducible refine (q03_lone.calls false t372 _ A11.out).mono ?_);rintro e w14 ⟨v373,rfl,ho0,hb⟩;refine ⟨_,rfl,?_⟩;have HO374:=Am (Kd.R_lower ho0 (below_size TB));replace HB:=Am (below_step TB hb);(try clear hb);(try clear hb2);(try clear hk);(try clear hi);(try clear ho0);obtain ⟨Ao15,co15,eo15⟩:=Kd.R_slice HO374.out;subst eo15)|((with_reducible refine gate_callee (f:=93) rfl ?_);refine goesL_ (some 23) rfl rfl Try.func93 TK rfl #[.slice Ao15 t372.length co15,.int .i64 a0] rfl TM ?_;(with_reducible refine (q03_inPairs.calls kj2 _ _ t372 a0 t375 t376 _ ?side1 ?side2 A12.out).mono ?_);(case side1=>exact CU ((Kd.R_reads' HO374.out).2.2));(case side2=>exact (Kd.R_reads' HO374.out).2.1);rintro e w' ⟨rfl,⟨nd,rfl⟩⟩;refine ⟨_,rfl,?_⟩))
   go_ret
   exact ⟨TE,TB⟩
def q16_Shown.f (k:Nat) (a0:Int) (a1:Int):Option (Int):=if (Int.tmod a1 2)=0 then (some a0) else ((q03_Glyph.f k a0).bind fun t377=>(some t377))
theorem q16_Shown.mono: ∀ a0 a1 k,LeO (q16_Shown.f k a0 a1) (q16_Shown.f (k+1) a0 a1):=by
 intros
 unfold q16_Shown.f
 have j0:=@q03_Glyph.mono
 exact TL
set_option maxHeartbeats 8000000 in
theorem q16_Shown.calls (k:Nat) (a0:Int) (a1:Int) (r:Int) (w:World) (h:q16_Shown.f k a0 a1=some r) :
  Calls Try.prog 41 #[.int .i64 a0,.int .i64 a1] w fun e w'=>e= .returned (.int .i64 r)∧Below w.heap.size w w':=by
 have HB:=Am (Below.refl w.heap.size w)
 have H:(if (Int.tmod a1 2)=0 then (some a0) else ((q03_Glyph.f k a0).bind fun t377=>(some t377)))=some r:=h
 clear h
 by_cases c3:(Int.tmod a1 2)=0
 ·
  rw [if_pos c3] at H
  have c3b0:((Int.tmod a1 2)==0)=true:=beq_iff_eq.mpr c3
  have c3b1:((Int.tmod a1 2) !=0)=false:=bne_eq_false_iff_eq.mpr c3
  clear c3
  obtain rfl:=Option.some.inj H
  go_enter Try.func41,Try.ntmps41
  go_wp2
  go_ret
  exact ⟨TE,TB⟩
 rw [if_neg c3] at H
 have c3b0:((Int.tmod a1 2)==0)=false:=beq_eq_false_iff_ne.mpr c3
 have c3b1:((Int.tmod a1 2) !=0)=true:=bne_iff_ne.mpr c3
 obtain ⟨t377,A40,H⟩:=Option.bind_eq_some_iff.mp H
 try dsimp only at H
 have A4:=Am A40
 clear A40
 obtain rfl:=Option.some.inj H
 go_enter Try.func41,Try.ntmps41
 go_wp2_with (first|((with_reducible refine gate_callee (f:=62) rfl ?_);refine goesL_ (some 9) rfl rfl Try.func62 TK rfl #[.int .i64 a0] rfl TM ?_;(with_reducible refine (q03_Glyph.calls k a0 t377 _ A4.out).mono ?_);rintro e w5 ⟨rfl,hb⟩;refine ⟨_,rfl,?_⟩;replace HB:=Am (below_step TB hb);(try clear hb);(try clear hb2);(try clear hk);(try clear hi)))
 go_ret
 exact ⟨TE,TB⟩
mutual
def q19_Text.j0:Nat→Int→Int→List (S42)→Bool→List (S40)→List Int→Option ((List (S42)))
 | 0,_,_,_,_,_,_=>none
 | k+1,x1,x2,x7,x18,x379000,x379001=>if x18=true then (if x7.length < 2932031007402 then (q19_Text.j1 k x1 x2 (x7++[(⟨3,0,0,0,0,0⟩:S42)]) x379000 x379001) else (none)) else (q19_Text.j1 k x1 x2 x7 x379000 x379001)
def q19_Text.j1:Nat→Int→Int→List (S42)→List (S40)→List Int→Option ((List (S42)))
 | 0,_,_,_,_,_=>none
 | k+1,x1,x2,x7,x379000,x379001=>(q16_Order.f k x379001).bind fun t382=>(q19_Text.l0 k x1 x2 x7 t382 0 x379000 x379001)
def q19_Text.l0:Nat→Int→Int→List (S42)→List Int→Int→List (S40)→List Int→Option ((List (S42)))
 | 0,_,_,_,_,_,_,_=>none
 | k+1,x1,x2,x7,x8,x9,x379000,x379001=>if x9 < (x8.length:Int) then (if 0≤x9 then (if 0≤(rd x8 x9) then (if (rd x8 x9) < (x379000.length:Int) then (if (rd x8 x9) < (x379001.length:Int) then ((q16_Shown.f k ((rd_T40 x379000 (rd x8 x9)).f5) (rd x379001 (rd x8 x9))).bind fun t393=>(q19_Text.l1 k x1 x2 x7 x8 x9 t393 0 x379000 x379001 ((rd_T40 x379000 (rd x8 x9)).f0) ((rd_T40 x379000 (rd x8 x9)).f1) ((rd_T40 x379000 (rd x8 x9)).f2) ((rd_T40 x379000 (rd x8 x9)).f3) ((rd_T40 x379000 (rd x8 x9)).f4) ((rd_T40 x379000 (rd x8 x9)).f5))) else (none)) else (none)) else (none)) else (none)) else (if x1=1 then (if x2=0 then (if x7.length < 2932031007402 then (some (x7++[(⟨3,0,0,0,0,0⟩:S42)])) else (none)) else (some x7)) else (some x7))
def q19_Text.l1:Nat→Int→Int→List (S42)→List Int→Int→Int→Int→List (S40)→List Int→Int→Int→Int→Int→Int→Int→Option ((List (S42)))
 | 0,_,_,_,_,_,_,_,_,_,_,_,_,_,_,_=>none
 | k+1,x1,x2,x7,x8,x9,x11,x12,x379000,x379001,x391000,x391001,x391002,x391003,x391004,x391005=>if x12 < x391004 then (if x7.length < 2932031007402 then (q19_Text.l1 k x1 x2 (x7++[(⟨4,0,0,x391000,x12,x11⟩:S42)]) x8 x9 x11 (wrap64 (x12+1)) x379000 x379001 x391000 x391001 x391002 x391003 x391004 x391005) else (none)) else (q19_Text.l0 k x1 x2 x7 x8 (wrap64 (x9+1)) x379000 x379001)
end
def q19_Text.f (k:Nat) (l0_0:List (S40)) (l0_1:List Int) (a1:Int) (a2:Int):Option ((List (S42))):=if a1=1 then (q19_Text.j0 k a1 a2 ([]:List (S42)) (a2==1) l0_0 l0_1) else (q19_Text.j0 k a1 a2 ([]:List (S42)) false l0_0 l0_1)
theorem q19_Text.mono_l: ∀ k,(∀ y0 y1 y2 y3 y4 y5,LeO (q19_Text.j0 k y0 y1 y2 y3 y4 y5) (q19_Text.j0 (k+1) y0 y1 y2 y3 y4 y5))∧(∀ y0 y1 y2 y3 y4,LeO (q19_Text.j1 k y0 y1 y2 y3 y4) (q19_Text.j1 (k+1) y0 y1 y2 y3 y4))∧(∀ y0 y1 y2 y3 y4 y5 y6,LeO (q19_Text.l0 k y0 y1 y2 y3 y4 y5 y6) (q19_Text.l0 (k+1) y0 y1 y2 y3 y4 y5 y6))∧(∀ y0 y1 y2 y3 y4 y5 y6 y7 y8 y9 y10 y11 y12 y13 y14,LeO (q19_Text.l1 k y0 y1 y2 y3 y4 y5 y6 y7 y8 y9 y10 y11 y12 y13 y14) (q19_Text.l1 (k+1) y0 y1 y2 y3 y4 y5 y6 y7 y8 y9 y10 y11 y12 y13 y14))
 | 0=>⟨fun _ _ _ _ _ _ r h=>by simp [q19_Text.j0] at h,fun _ _ _ _ _ r h=>by simp [q19_Text.j1] at h,fun _ _ _ _ _ _ _ r h=>by simp [q19_Text.l0] at h,fun _ _ _ _ _ _ _ _ _ _ _ _ _ _ _ r h=>by simp [q19_Text.l1] at h⟩
 | k+1=>by
  obtain ⟨ih0,ih1,ih2,ih3⟩:=q19_Text.mono_l k
  refine ⟨?_,?_,?_,?_⟩
  ·
   intros
   unfold q19_Text.j0
   have j0:=@q16_Order.mono
   have j1:=@q16_Shown.mono
   exact TL
  ·
   intros
   unfold q19_Text.j1
   have j0:=@q16_Order.mono
   have j1:=@q16_Shown.mono
   exact TL
  ·
   intros
   unfold q19_Text.l0
   have j0:=@q16_Order.mono
   have j1:=@q16_Shown.mono
   exact TL
  ·
   intros
   unfold q19_Text.l1
   have j0:=@q16_Order.mono
   have j1:=@q16_Shown.mono
   exact TL
theorem q19_Text.mono: ∀ a0 a1 a2 a3 k,LeO (q19_Text.f k a0 a1 a2 a3) (q19_Text.f (k+1) a0 a1 a2 a3):=by
 intro a0 a1 a2 a3 k
 obtain ⟨ih0,ih1,ih2,ih3⟩:=q19_Text.mono_l k
 unfold q19_Text.f
 repeat' first
   | (with_reducible exact ih0 _ _ _ _ _ _)
   | (with_reducible exact ih1 _ _ _ _ _)
   | (with_reducible exact ih2 _ _ _ _ _ _ _)
   | (with_reducible exact ih3 _ _ _ _ _ _ _ _ _ _ _ _ _ _ _)
   | (with_reducible exact q16_Order.mono _ _)
   | (with_reducible exact q16_Shown.mono _ _ _)
   | (with_reducible exact LeO.refl _)
   | (with_reducible exact LeO.none _)
   | (with_reducible refine LeO.ite ?_ ?_)
   | (with_reducible refine LeO.bind ?_ (fun _=>?_))
def q19_Text.T8:Bool × List (List Nat × List Nat):=(true,[([],[]),([0],[0]),([],[]),([],[]),([2,3],[2,3]),([4],[4]),([1,5],[1,5]),([6],[6]),([],[]),([8,7,0,1,2,3,4,5,6,7,8],[7,8])])
def q19_Text.B8:List Nat:=[0,1,0,0,12,28,63,127,0,511]
theorem q19_Text.tab8:rtab .any (opsOf Try.f23 8)=q19_Text.T8:=by kernel_rfl
theorem q19_Text.bits8:waitsOk q19_Text.T8.2 q19_Text.B8=true:=by kernel_rfl
def q19_Text.T9:Bool × List (List Nat × List Nat):=(true,[([],[]),([0],[0]),([],[]),([2],[2]),([],[]),([],[]),([4,5],[4,5]),([6],[6]),([3,7],[3,7]),([8],[8]),([1,9],[1,9]),([10,10,0,1,2,3,4,5,6,7,8,9,10],[10])])
def q19_Text.B9:List Nat:=[0,1,0,4,0,0,48,112,252,508,1023,2047]
theorem q19_Text.tab9:rtab .any (opsOf Try.f23 9)=q19_Text.T9:=by kernel_rfl
theorem q19_Text.bits9:waitsOk q19_Text.T9.2 q19_Text.B9=true:=by kernel_rfl
set_option maxHeartbeats 8000000 in
theorem q19_Text.calls (k:Nat) (A0_0:Option Addr) (c0_0:Nat) (l0_0:List (S40)) (A0_1:Option Addr) (c0_1:Nat) (l0_1:List Int) (a1:Int) (a2:Int) (r:List (S42)) (w:World) (hr0_0:Kd.C k40 w A0_0 l0_0.length l0_0) (hc0_0:l0_0.length≤c0_0) (hr0_1:Kd.C (Kd.int .i64) w A0_1 l0_1.length l0_1) (hc0_1:l0_1.length≤c0_1) (h:q19_Text.f k l0_0 l0_1 a1 a2=some r) :
  Calls Try.prog 23 #[.agg #[.slice A0_0 l0_0.length c0_0,.slice A0_1 l0_1.length c0_1],.int .i64 a1,.int .i64 a2] w fun e w'=> ∃ v0_:Value,e= .returned (v0_)∧Kd.R k42 42 w' w.heap.size (fun _=>True) v0_ r∧Below w.heap.size w w':=by
 have hu59:=Try.underlying59
 have hu42:=Try.underlying42
 have hu40:=Try.underlying40
 have HR0_0:=Am hr0_0
 have HC0_0:=Am hc0_0
 clear hr0_0 hc0_0
 have HR0_1:=Am hr0_1
 have HC0_1:=Am hc0_1
 clear hr0_1 hc0_1
 have HB:=Am (Below.refl w.heap.size w)
 have H:(if a1=1 then (q19_Text.j0 k a1 a2 ([]:List (S42)) (a2==1) l0_0 l0_1) else (q19_Text.j0 k a1 a2 ([]:List (S42)) false l0_0 l0_1))=some r:=h
 clear h
 have HC4:=Am H
 clear H
 go_enter Try.func23,Try.ntmps23
 try dsimp only [List.append]
 go_upto_region 2 with (first|((with_reducible refine gate_dst (N:=3) rfl ?_);refine box_event ?hg (N:=3) ?hd (cs:= #[.slice A0_0 l0_0.length c0_0,.slice A0_1 l0_1.length c0_1]) (t:=59) ?hr ?_;(case hd=>rfl);(case hg=>rfl);(case hr=>exact TG);intro gb378 hg w5 hbox hb;have BK378:=Am (hbox);have GW378:=Am (gwS hg);have GE378:=Am (gwS hg);replace HB:=Am (below_step TB hb);clear hb hbox hg))
 (try simp only [Act.put,List.setIfInBounds_toArray,List.set_cons_zero,List.set_cons_succ])
 go_cut [18] (fun v18 wc=> ∃ (kq:Nat) (x18_3:Bool),v18= .bool x18_3∧Aside0 (q19_Text.j0 kq a1 a2 ([]:List (S42)) x18_3 l0_0 l0_1=some r)∧Aside0 (kq≤k)∧Aside0 (Kd.R k42 42 wc w.heap.size (fun _=>True) (.slice none 0 0) ([]:List (S42)))∧Aside0 (wc.heap[gb378]?=some (.cells #[(.slice A0_0 l0_0.length c0_0),(.slice A0_1 l0_1.length c0_1)] 59 (0,0)))∧Aside0 (Below w.heap.size w wc))
 case first =>
  have H:=HC4.out
  clear HC4
  by_cases c6:a1=1
  rotate_left
  ·
   rw [if_neg c6] at H
   have c6b0:(a1==1)=false:=beq_eq_false_iff_ne.mpr c6
   have c6b1:(a1 !=1)=true:=bne_iff_ne.mpr c6
   (first|rw [c6b0]|(simp only [i64_w,i32_w];rw [c6b0])|skip)
   have H':=Am H
   clear H
   go_wp2
   go_meet
   case rel=>exact ⟨_,(false),TS,H',⟨by first|omega|exact Nat.le_refl _⟩,⟨by first|exact Kd.R_nil _ _ _ _ _|exact Kd.N_nil _ _ _ _ _|exact Kd.V_nil _ _ _ _ _|exact Kd.Q_nil _ _ _ _ _|exact Kd.S_nil _ _ _ _ _⟩,⟨blkU BK378.out⟩,⟨TB⟩⟩
  rw [if_pos c6] at H
  have c6b0:(a1==1)=true:=beq_iff_eq.mpr c6
  have c6b1:(a1 !=1)=false:=bne_eq_false_iff_eq.mpr c6
  clear c6
  (first|rw [c6b0]|(simp only [i64_w,i32_w];rw [c6b0])|skip)
  have H':=Am H
  clear H
  go_wp2
  go_meet
  case rel=>exact ⟨_,((a2==1)),TS,H',⟨by first|omega|exact Nat.le_refl _⟩,⟨by first|exact Kd.R_nil _ _ _ _ _|exact Kd.N_nil _ _ _ _ _|exact Kd.V_nil _ _ _ _ _|exact Kd.Q_nil _ _ _ _ _|exact Kd.S_nil _ _ _ _ _⟩,⟨blkU BK378.out⟩,⟨TB⟩⟩
 case rest =>
  clear HC4
  obtain ⟨kq,x18_3,rfl,HA,HJ3,HO_7,BK378,HB⟩:=hcut
  cases kq with
  | zero=>exact absurd HA.out (by simp [q19_Text.j0])
  | succ kj3 =>
   have H:=HA.out
   clear HA
   simp only [q19_Text.j0] at H
   have HC7:=Am H
   clear H
   go_upto_if 18 with (fail)
   go_cut [7] (fun v7 wc=> ∃ (kq:Nat) (x7_6:List (S42)),Aside0 (q19_Text.j1 kq a1 a2 x7_6 l0_0 l0_1=some r)∧Aside0 (kq≤kj3)∧Aside0 (Kd.R k42 42 wc w.heap.size (fun _=>True) v7 x7_6)∧Aside0 (wc.heap[gb378]?=some (.cells #[(.slice A0_0 l0_0.length c0_0),(.slice A0_1 l0_1.length c0_1)] 59 (0,0)))∧Aside0 (Below w.heap.size w wc))
   case first =>
    have H:=HC7.out
    clear HC7
    by_cases c8:x18_3=true
    rotate_left
    ·
     replace c8:=Bool.eq_false_iff.mpr c8
     subst c8
     rw [if_neg (show ¬ (false=true) by decide)] at H
     have H':=Am H
     clear H
     go_wp2
     go_meet
     case rel=>exact ⟨_,(([]:List (S42))),H',⟨by have:=HJ3.out;first|omega|exact Nat.le_refl _⟩,⟨RU HO_7.out⟩,⟨blkU BK378.out⟩,⟨TB⟩⟩
    subst c8
    rw [if_pos rfl] at H
    obtain ⟨c9,H⟩:=ifS H
    have LMc9:=Am c9
    clear c9
    obtain ⟨y379,hy379⟩: ∃ y_:List (S42),y_=(([]:List (S42))++[(⟨3,0,0,0,0,0⟩:S42)]):=⟨_,rfl⟩
    replace H:(q19_Text.j1 kj3 a1 a2 y379 l0_0 l0_1)=some r:=by first|(rw [hy379];with_reducible exact H)|(have H2_:=(Option.bind_some _ _).symm.trans H;rw [hy379];with_reducible exact H2_)|(have H2_:=(Option.bind_some _ _).symm.trans H;with_reducible exact H2_)|with_reducible exact H|(rw [hy379];exact H)|exact H
    have Ny379:=Am hy379
    clear hy379
    have H':=Am H
    clear H
    go_wp2_with (first|((with_reducible refine gate_builtin (b:= .append) (xs:= #[.tmp 19,.tmp 21]) rfl ?_);at_builtin;refine Kd.R_append k42 (w0:=w) w.heap.size rfl (.tmp 19) (.tmp 21) 27 42 (.agg #[(.int .i64 0),(.int .i64 0),(.int .i64 0),(.int .i64 0),(.int .i64 0),(.int .i64 0)]) 48 rfl Try.underlying27 info42 rfl (by decide) (by omega) (.slice none 0 0) ([]:List (S42)) (⟨3,0,0,0,0,0⟩:S42) [.int .i64 3,.int .i64 0,.int .i64 0,.int .i64 0,.int .i64 0,.int .i64 0] (fun _=>True) (fun _=>False) rfl rfl ?aP (fun _ hk=>hk.elim) ?aF ?aO ?aB ?aS ?aL ?_;(case aP=>exact k42_mkM _ _ _ (⟨3,0,0,0,0,0⟩:S42));(case aB=>exact TB);(case aF=>exact (fun _ _=>trivial));(case aO=>exact (RU HO_7.out));(case aS=>exact (below_size TB));(case aL=>have:=LMc9.out;omega);intro v380 w10 ho hb hg hat;rw [← Ny379.out] at ho;replace BK378:=Am (blk_grown (g:=gb378) (o:= .cells #[.slice A0_0 l0_0.length c0_0,.slice A0_1 l0_1.length c0_1] 59 (0,0)) (blkU BK378.out) hg (Kd.R_ne HO_7.out BK378.out (by decide)));have HO381:=Am (ho);replace HB:=Am (hb);clear HO_7;clear ho hb hg hat))
    go_meet
    case rel=>exact ⟨_,(y379),H',⟨by have:=HJ3.out;first|omega|exact Nat.le_refl _⟩,⟨RU HO381.out⟩,⟨blkU BK378.out⟩,⟨TB⟩⟩
   case rest =>
    clear HC7
    obtain ⟨kq,x7_6,HA,HJ6,HO_7,BK378,HB⟩:=hcut
    cases kq with
    | zero=>exact absurd HA.out (by simp [q19_Text.j1])
    | succ kj6 =>
     have H:=HA.out
     clear HA
     simp only [q19_Text.j1] at H
     obtain ⟨t382,A110,H⟩:=Option.bind_eq_some_iff.mp H
     try dsimp only at H
     have A11:=Am A110
     clear A110
     have H':=Am H
     clear H
     obtain ⟨hcz12_0,hcz12_1⟩:=blkC2 BK378.out
     obtain ⟨hfz12_0,hfz12_1⟩:=blkF2 BK378.out
     go_wp2_with (first|((with_reducible refine gate_callee (f:=40) rfl ?_);refine goesL_ (some 25) rfl rfl Try.func40 TK rfl #[.slice A0_1 l0_1.length c0_1] rfl TM ?_;(with_reducible refine (q16_Order.calls kj6 _ _ l0_1 t382 _ ?side1 ?side2 A11.out).mono ?_);(case side1=>exact CU (Kd.C_below HR0_1.out HB.out));(case side2=>exact HC0_1.out);rintro e w13 ⟨v383,rfl,ho0,hb⟩;refine ⟨_,rfl,?_⟩;replace HO_7:=Am (Kd.R_below (RU HO_7.out) hb);have HO384:=Am (Kd.R_lower ho0 (below_size TB));replace BK378:=Am (blk_below (blkU BK378.out) hb);replace HB:=Am (below_step TB hb);(try clear hb);(try clear hb2);(try clear hk);(try clear hi);(try clear ho0)))
     go_loopg [7,9] kj6 (fun kq v7 v9 w'=> ∃ (x7_3:List (S42)) (x9_3:Int),v9= .int .i64 x9_3∧Aside0 (q19_Text.l0 kq a1 a2 x7_3 t382 x9_3 l0_0 l0_1=some r)∧Aside0 (kq≤kj6)∧Aside0 (Kd.R k42 42 w' w.heap.size (fun _=>True) v7 x7_3)∧Aside0 (Kd.R (Kd.int .i64) 3 w' w.heap.size (fun _=>True) v383 t382)∧Aside0 (w'.heap[gb378]?=some (.cells #[(.slice A0_0 l0_0.length c0_0),(.slice A0_1 l0_1.length c0_1)] 59 (0,0)))∧Aside0 (Below w.heap.size w w'))
     case atStart=>exact ⟨(x7_6),(0),TS,H',⟨Nat.le_refl _⟩,⟨RU HO_7.out⟩,⟨RU HO384.out⟩,⟨blkU BK378.out⟩,⟨TB⟩⟩
     case round =>
      clear H'
      obtain ⟨x7_3,x9_3,rfl,HA,HK3,HO_7,HO_8,BK378,HB⟩:=hrel
      cases gk with
      | zero=>exact absurd HA.out (by simp [q19_Text.l0])
      | succ k3 =>
       have H:=HA.out
       clear HA
       simp only [q19_Text.l0] at H
       by_cases c14:x9_3 < (t382.length:Int)
       rotate_left
       ·
        rw [if_neg c14] at H
        have c14b0:decide (x9_3 < (t382.length:Int))=false:=decide_eq_false c14
        clear c14
        by_cases c39:a1=1
        rotate_left
        ·
         rw [if_neg c39] at H
         have c39b0:(a1==1)=false:=beq_eq_false_iff_ne.mpr c39
         have c39b1:(a1 !=1)=true:=bne_iff_ne.mpr c39
         obtain rfl:=Option.some.inj H
         obtain ⟨Ao45,co45,eo45⟩:=Kd.R_slice HO_8.out
         subst eo45
         go_wp2
         go_ret
         exact ⟨_,TE,RU HO_7.out,TB⟩
        rw [if_pos c39] at H
        have c39b0:(a1==1)=true:=beq_iff_eq.mpr c39
        have c39b1:(a1 !=1)=false:=bne_eq_false_iff_eq.mpr c39
        clear c39
        by_cases c40:a2=0
        rotate_left
        ·
         rw [if_neg c40] at H
         have c40b0:(a2==0)=false:=beq_eq_false_iff_ne.mpr c40
         have c40b1:(a2 !=0)=true:=bne_iff_ne.mpr c40
         obtain rfl:=Option.some.inj H
         obtain ⟨Ao44,co44,eo44⟩:=Kd.R_slice HO_8.out
         subst eo44
         go_wp2
         go_ret
         exact ⟨_,TE,RU HO_7.out,TB⟩
        rw [if_pos c40] at H
        have c40b0:(a2==0)=true:=beq_iff_eq.mpr c40
        have c40b1:(a2 !=0)=false:=bne_eq_false_iff_eq.mpr c40
        clear c40
        obtain ⟨c41,H⟩:=ifS H
        have LMc41:=Am c41
        clear c41
        obtain ⟨y385,hy385⟩: ∃ y_:List (S42),y_=(x7_3++[(⟨3,0,0,0,0,0⟩:S42)]):=⟨_,rfl⟩
        replace H:(some y385)=some r:=by first|(rw [hy385];with_reducible exact H)|(have H2_:=(Option.bind_some _ _).symm.trans H;rw [hy385];with_reducible exact H2_)|(have H2_:=(Option.bind_some _ _).symm.trans H;with_reducible exact H2_)|with_reducible exact H|(rw [hy385];exact H)|exact H
        have Ny385:=Am hy385
        clear hy385
        obtain rfl:=Option.some.inj H
        obtain ⟨Ao42,co42,eo42⟩:=Kd.R_slice HO_8.out
        subst eo42
        go_wp2_with (first|((with_reducible refine gate_builtin (b:= .append) (xs:= #[.tmp 71,.tmp 73]) rfl ?_);at_builtin;refine Kd.R_append k42 (w0:=w) w.heap.size rfl (.tmp 71) (.tmp 73) 27 42 (.agg #[(.int .i64 0),(.int .i64 0),(.int .i64 0),(.int .i64 0),(.int .i64 0),(.int .i64 0)]) 48 rfl Try.underlying27 info42 rfl (by decide) (by omega) u7 x7_3 (⟨3,0,0,0,0,0⟩:S42) [.int .i64 3,.int .i64 0,.int .i64 0,.int .i64 0,.int .i64 0,.int .i64 0] (fun _=>True) (fun _=>False) rfl rfl ?aP (fun _ hk=>hk.elim) ?aF ?aO ?aB ?aS ?aL ?_;(case aP=>exact k42_mkM _ _ _ (⟨3,0,0,0,0,0⟩:S42));(case aB=>exact TB);(case aF=>exact (fun _ _=>trivial));(case aO=>exact (RU HO_7.out));(case aS=>exact (below_size TB));(case aL=>have:=LMc41.out;omega);intro v386 w43 ho hb hg hat;rw [← Ny385.out] at ho;replace HO_8:=Am (Kd.R_over' (RU HO_8.out) (Kd.R_typed (RU HO_7.out)) (by decide) hg);replace BK378:=Am (blk_grown (g:=gb378) (o:= .cells #[.slice A0_0 l0_0.length c0_0,.slice A0_1 l0_1.length c0_1] 59 (0,0)) (blkU BK378.out) hg (Kd.R_ne HO_7.out BK378.out (by decide)));have HO387:=Am (ho);replace HB:=Am (hb);clear HO_7;clear ho hb hg hat))
        go_ret
        exact ⟨_,TE,RU HO387.out,TB⟩
       rw [if_pos c14] at H
       have c14b0:decide (x9_3 < (t382.length:Int))=true:=decide_eq_true c14
       clear c14
       obtain ⟨c15,H⟩:=ifS H
       have c15b0:decide (0≤x9_3)=true:=decide_eq_true c15
       clear c15
       obtain ⟨c16,H⟩:=ifS H
       have c16b0:decide (0≤(rd t382 x9_3))=true:=decide_eq_true c16
       clear c16
       obtain ⟨c17,H⟩:=ifS H
       have c17b0:decide ((rd t382 x9_3) < (l0_0.length:Int))=true:=decide_eq_true c17
       clear c17
       obtain ⟨c18,H⟩:=ifS H
       have c18b0:decide ((rd t382 x9_3) < (l0_1.length:Int))=true:=decide_eq_true c18
       clear c18
       obtain ⟨t393,A190,H⟩:=Option.bind_eq_some_iff.mp H
       try dsimp only at H
       have A19:=Am A190
       clear A190
       have H':=Am H
       clear H
       obtain ⟨Ao20,co20,eo20⟩:=Kd.R_slice HO_8.out
       subst eo20
       try go_wp2
       replace HO_7:=Am (Kd.R_drew HO_7.out)
       replace HO_8:=Am (Kd.R_drew HO_8.out)
       replace BK378:=Am (blk_drew BK378.out)
       replace HB:=Am (below_drew1 HB.out)
       have p388:0≤(x9_3:Int):=tD
       have q388:x9_3 < (t382.length:Int):=tD
       obtain ⟨ad388,e388,hx388_0⟩:=Kd.at_int (Kd.R_reads' HO_8.out).2.2 x9_3 p388 q388
       cases e388
       replace p388:=eq_true p388
       replace q388:=eq_true q388
       have p389:0≤((rd t382 x9_3):Int):=tD
       have q389:(rd t382 x9_3) < (l0_0.length:Int):=tD
       obtain ⟨ad389,e389,hx389_0,hx389_1,hx389_2,hx389_3,hx389_4,hx389_5⟩:=at_T40 HR0_0.out (rd t382 x9_3) p389 q389
       have hw389_5:=hx389_5
       have hw389_4:=hx389_4
       have hw389_3:=hx389_3
       have hw389_2:=hx389_2
       have hw389_1:=hx389_1
       have hw389_0:=hx389_0
       cases e389
       replace hx389_0:=cellU HB.out hx389_0
       replace hx389_1:=cellU HB.out hx389_1
       replace hx389_2:=cellU HB.out hx389_2
       replace hx389_3:=cellU HB.out hx389_3
       replace hx389_4:=cellU HB.out hx389_4
       replace hx389_5:=cellU HB.out hx389_5
       replace p389:=eq_true p389
       replace q389:=eq_true q389
       refine start_ (n:=10) (S:=fun w'=>w'.cell? ⟨gb378,0,none⟩=some (.slice (some ad389) l0_0.length c0_0)∧w'.cell? ⟨gb378,1,none⟩=some (.slice A0_1 l0_1.length c0_1)∧w'.cell? (ad388.add (x9_3).toNat)=some (.int .i64 (rd t382 x9_3))∧w'.cell? (ad389.add (((rd t382 x9_3)).toNat * 6))=some (.int .i64 ((rd_T40 l0_0 (rd t382 x9_3)).f0))∧w'.cell? ⟨(ad389.add (((rd t382 x9_3)).toNat * 6)).block,(ad389.add (((rd t382 x9_3)).toNat * 6)).off+1,none⟩=some (.int .i64 ((rd_T40 l0_0 (rd t382 x9_3)).f1))∧w'.cell? ⟨(ad389.add (((rd t382 x9_3)).toNat * 6)).block,(ad389.add (((rd t382 x9_3)).toNat * 6)).off+2,none⟩=some (.int .i64 ((rd_T40 l0_0 (rd t382 x9_3)).f2))∧w'.cell? ⟨(ad389.add (((rd t382 x9_3)).toNat * 6)).block,(ad389.add (((rd t382 x9_3)).toNat * 6)).off+3,none⟩=some (.int .i64 ((rd_T40 l0_0 (rd t382 x9_3)).f3))∧w'.cell? ⟨(ad389.add (((rd t382 x9_3)).toNat * 6)).block,(ad389.add (((rd t382 x9_3)).toNat * 6)).off+4,none⟩=some (.int .i64 ((rd_T40 l0_0 (rd t382 x9_3)).f4))∧w'.cell? ⟨(ad389.add (((rd t382 x9_3)).toNat * 6)).block,(ad389.add (((rd t382 x9_3)).toNat * 6)).off+5,none⟩=some (.int .i64 ((rd_T40 l0_0 (rd t382 x9_3)).f5))) (ds:=[]) (bl 10 0) TK rfl rfl ⟨(blk_cell BK378.out 0).trans rfl,(blk_cell BK378.out 1).trans rfl,hx388_0,(cellU HB.out hw389_0),(cellU HB.out hw389_1),(cellU HB.out hw389_2),(cellU HB.out hw389_3),(cellU HB.out hw389_4),(cellU HB.out hw389_5)⟩ (fun hHeld=>?_);refine with_tabW q19_Text.tab8 q19_Text.bits8 (fun HT_ HW_=>?_)
       generalize wr.drew=w21 at HO_7 HO_8 BK378 HB hx388_0 hx389_0 hx389_1 hx389_2 hx389_3 hx389_4 hx389_5 hHeld ⊢
       refine pureS (i:=0) (N:=some 32) (bl 10 1) rfl rfl (any_of HT_.out TK) ?_
       refine pureS (i:=2) (N:=some 34) (bl 10 5) rfl rfl (any_of HT_.out TK) ?_
       refine pureS (i:=3) (N:=some 35) (bl 10 13) rfl rfl (any_of HT_.out TK) ?_
       refine pureS (i:=4) (N:=some 36) (bl 10 29) rfl rfl (any_of HT_.out TK) ?_
       refine take_ (i:=1) (N:=some 33) (v:=?_) (a':=?_) (bl 10 31) rfl rfl (take_ofW HT_.out HW_.out TK) (fun _ _ _ h=>h) (Or.inl ⟨by rfl,?_⟩) hHeld ?_ ?_
       rotate_left
       ·
        rintro w' ⟨s0,s1,s2,s3,s4,s5,s6,s7,s8⟩
        go_simp
        with_reducible rfl
       rotate_left
       ·
        simp only [PT]
        rfl
       refine take_ (i:=5) (N:=some 37) (v:=?_) (a':=?_) (bl 10 63) rfl rfl (take_ofW HT_.out HW_.out TK) (fun _ _ _ h=>h) (Or.inl ⟨by rfl,?_⟩) hHeld ?_ ?_
       rotate_left
       ·
        rintro w' ⟨s0,s1,s2,s3,s4,s5,s6,s7,s8⟩
        go_simp
        with_reducible rfl
       rotate_left
       ·
        simp only [PT]
        rfl
       refine pureS (i:=6) (N:=some 38) (bl 10 127) rfl rfl (any_of HT_.out TK) ?_
       refine take_ (i:=7) (N:=some 39) (v:=?_) (a':=?_) (bl 10 255) rfl rfl (take_ofW HT_.out HW_.out TK) (fun _ _ _ h=>h) (Or.inl ⟨by rfl,?_⟩) hHeld ?_ ?_
       rotate_left
       ·
        rintro w' ⟨s0,s1,s2,s3,s4,s5,s6,s7,s8⟩
        go_simp
        with_reducible rfl
       rotate_left
       ·
        simp only [PT]
        rfl
       refine one_ (i:=8) (N:=some 10) (bl 10 511) rfl rfl (one_of HT_.out TK) (by decide) (fun K hK=>?_)
       refine box_step ?hg (N:=10) ?hd (cs:= #[.int .i64 0,.int .i64 0,.int .i64 0,.int .i64 0,.int .i64 0,.int .i64 0]) (t:=40) ?hr ?_;(case hd=>rfl);(case hg=>rfl);(case hr=>exact TG)
       intro gb390 hg w22 hbox hb
       have HS2_:=(hb.cell (World.block_lt_of_cell? _ _ (hHeld.2.2.1))).trans (hHeld.2.2.1)
       replace HO_7:=Am (Kd.R_below (RU HO_7.out) hb)
       replace HO_8:=Am (Kd.R_below (RU HO_8.out) hb)
       have BK390:=Am (hbox)
       have GW390:=Am (gwS hg)
       have GE390:=Am (gwS hg)
       have NB378_390:=Am (ltS hg (blkU BK378.out))
       have NB390_378:=Am (gtS hg (blkU BK378.out))
       replace BK378:=Am (blk_below (blkU BK378.out) hb)
       replace HB:=Am (below_step TB hb)
       clear hb hbox hg
       refine hK.out _ _ ⟨(blk_cell BK378.out 0).trans rfl,(blk_cell BK378.out 1).trans rfl,HS2_,(cellU HB.out hw389_0),(cellU HB.out hw389_1),(cellU HB.out hw389_2),(cellU HB.out hw389_3),(cellU HB.out hw389_4),(cellU HB.out hw389_5)⟩ (fun hHeld=>?_)
       clear hK K
       refine norm_ (a':=?_) ?_ ?_
       rotate_left
       ·
        show Act.put _ (some 10) _=_
        simp only [PT]
        rfl
       refine one_ (i:=9) (N:=none) (bl 10 1023) rfl rfl (one_of HT_.out TK) (by decide) (fun K hK=>?_)
       have hs23:w22.cell? ⟨gb390,0,none⟩=some (.int .i64 0):=(blk_cell BK390.out 0).trans rfl
       have hfs23:=blk_frozen BK390.out 0
       have hns23_0:=NB378_390.out
       have hms23_0:=NB390_378.out
       have hs24:w22.cell? ⟨gb390,1,none⟩=some (.int .i64 0):=(blk_cell BK390.out 1).trans rfl
       have hfs24:=blk_frozen BK390.out 1
       have hns24_0:=NB378_390.out
       have hms24_0:=NB390_378.out
       have hs25:w22.cell? ⟨gb390,2,none⟩=some (.int .i64 0):=(blk_cell BK390.out 2).trans rfl
       have hfs25:=blk_frozen BK390.out 2
       have hns25_0:=NB378_390.out
       have hms25_0:=NB390_378.out
       have hs26:w22.cell? ⟨gb390,3,none⟩=some (.int .i64 0):=(blk_cell BK390.out 3).trans rfl
       have hfs26:=blk_frozen BK390.out 3
       have hns26_0:=NB378_390.out
       have hms26_0:=NB390_378.out
       have hs27:w22.cell? ⟨gb390,4,none⟩=some (.int .i64 0):=(blk_cell BK390.out 4).trans rfl
       have hfs27:=blk_frozen BK390.out 4
       have hns27_0:=NB378_390.out
       have hms27_0:=NB390_378.out
       have hs28:w22.cell? ⟨gb390,5,none⟩=some (.int .i64 0):=(blk_cell BK390.out 5).trans rfl
       have hfs28:=blk_frozen BK390.out 5
       have hns28_0:=NB378_390.out
       have hms28_0:=NB390_378.out
       refine skip_ (w1:=?_) (by rfl) rfl ?_ ?_
       rotate_left
       ·
        go_simp
        rfl
       refine hK.out _ _ ⟨((cell_far (p:=⟨gb390,_,none⟩) NB378_390.out _).trans (((cell_far (p:=⟨gb390,_,none⟩) NB378_390.out _).trans (((cell_far (p:=⟨gb390,_,none⟩) NB378_390.out _).trans (((cell_far (p:=⟨gb390,_,none⟩) NB378_390.out _).trans (((cell_far (p:=⟨gb390,_,none⟩) NB378_390.out _).trans (((cell_far (p:=⟨gb390,_,none⟩) NB378_390.out _).trans (hHeld.1)))))))))))),((cell_far (p:=⟨gb390,_,none⟩) NB378_390.out _).trans (((cell_far (p:=⟨gb390,_,none⟩) NB378_390.out _).trans (((cell_far (p:=⟨gb390,_,none⟩) NB378_390.out _).trans (((cell_far (p:=⟨gb390,_,none⟩) NB378_390.out _).trans (((cell_far (p:=⟨gb390,_,none⟩) NB378_390.out _).trans (((cell_far (p:=⟨gb390,_,none⟩) NB378_390.out _).trans (hHeld.2.1)))))))))))),((cell_far (p:=⟨gb390,_,none⟩) (by first|exact Kd.own_blk (Kd.R_ne HO_8.out BK390.out (by decide))|(rw [add_block];exact Kd.own_blk (Kd.R_ne HO_8.out BK390.out (by decide)))|(show (Addr.add _ _).block≠_;rw [add_block];exact Kd.own_blk (Kd.R_ne HO_8.out BK390.out (by decide)))|(dsimp only;exact Kd.own_blk (Kd.R_ne HO_8.out BK390.out (by decide)))) _).trans (((cell_far (p:=⟨gb390,_,none⟩) (by first|exact Kd.own_blk (Kd.R_ne HO_8.out BK390.out (by decide))|(rw [add_block];exact Kd.own_blk (Kd.R_ne HO_8.out BK390.out (by decide)))|(show (Addr.add _ _).block≠_;rw [add_block];exact Kd.own_blk (Kd.R_ne HO_8.out BK390.out (by decide)))|(dsimp only;exact Kd.own_blk (Kd.R_ne HO_8.out BK390.out (by decide)))) _).trans (((cell_far (p:=⟨gb390,_,none⟩) (by first|exact Kd.own_blk (Kd.R_ne HO_8.out BK390.out (by decide))|(rw [add_block];exact Kd.own_blk (Kd.R_ne HO_8.out BK390.out (by decide)))|(show (Addr.add _ _).block≠_;rw [add_block];exact Kd.own_blk (Kd.R_ne HO_8.out BK390.out (by decide)))|(dsimp only;exact Kd.own_blk (Kd.R_ne HO_8.out BK390.out (by decide)))) _).trans (((cell_far (p:=⟨gb390,_,none⟩) (by first|exact Kd.own_blk (Kd.R_ne HO_8.out BK390.out (by decide))|(rw [add_block];exact Kd.own_blk (Kd.R_ne HO_8.out BK390.out (by decide)))|(show (Addr.add _ _).block≠_;rw [add_block];exact Kd.own_blk (Kd.R_ne HO_8.out BK390.out (by decide)))|(dsimp only;exact Kd.own_blk (Kd.R_ne HO_8.out BK390.out (by decide)))) _).trans (((cell_far (p:=⟨gb390,_,none⟩) (by first|exact Kd.own_blk (Kd.R_ne HO_8.out BK390.out (by decide))|(rw [add_block];exact Kd.own_blk (Kd.R_ne HO_8.out BK390.out (by decide)))|(show (Addr.add _ _).block≠_;rw [add_block];exact Kd.own_blk (Kd.R_ne HO_8.out BK390.out (by decide)))|(dsimp only;exact Kd.own_blk (Kd.R_ne HO_8.out BK390.out (by decide)))) _).trans (((cell_far (p:=⟨gb390,_,none⟩) (by first|exact Kd.own_blk (Kd.R_ne HO_8.out BK390.out (by decide))|(rw [add_block];exact Kd.own_blk (Kd.R_ne HO_8.out BK390.out (by decide)))|(show (Addr.add _ _).block≠_;rw [add_block];exact Kd.own_blk (Kd.R_ne HO_8.out BK390.out (by decide)))|(dsimp only;exact Kd.own_blk (Kd.R_ne HO_8.out BK390.out (by decide)))) _).trans (hHeld.2.2.1)))))))))))),((cell_far (p:=⟨gb390,_,none⟩) (TN hw389_0 GW390.out) _).trans (((cell_far (p:=⟨gb390,_,none⟩) (TN hw389_0 GW390.out) _).trans (((cell_far (p:=⟨gb390,_,none⟩) (TN hw389_0 GW390.out) _).trans (((cell_far (p:=⟨gb390,_,none⟩) (TN hw389_0 GW390.out) _).trans (((cell_far (p:=⟨gb390,_,none⟩) (TN hw389_0 GW390.out) _).trans (((cell_far (p:=⟨gb390,_,none⟩) (TN hw389_0 GW390.out) _).trans (hHeld.2.2.2.1)))))))))))),((cell_far (p:=⟨gb390,_,none⟩) (TN hw389_1 GW390.out) _).trans (((cell_far (p:=⟨gb390,_,none⟩) (TN hw389_1 GW390.out) _).trans (((cell_far (p:=⟨gb390,_,none⟩) (TN hw389_1 GW390.out) _).trans (((cell_far (p:=⟨gb390,_,none⟩) (TN hw389_1 GW390.out) _).trans (((cell_far (p:=⟨gb390,_,none⟩) (TN hw389_1 GW390.out) _).trans (((cell_far (p:=⟨gb390,_,none⟩) (TN hw389_1 GW390.out) _).trans (hHeld.2.2.2.2.1)))))))))))),((cell_far (p:=⟨gb390,_,none⟩) (TN hw389_2 GW390.out) _).trans (((cell_far (p:=⟨gb390,_,none⟩) (TN hw389_2 GW390.out) _).trans (((cell_far (p:=⟨gb390,_,none⟩) (TN hw389_2 GW390.out) _).trans (((cell_far (p:=⟨gb390,_,none⟩) (TN hw389_2 GW390.out) _).trans (((cell_far (p:=⟨gb390,_,none⟩) (TN hw389_2 GW390.out) _).trans (((cell_far (p:=⟨gb390,_,none⟩) (TN hw389_2 GW390.out) _).trans (hHeld.2.2.2.2.2.1)))))))))))),((cell_far (p:=⟨gb390,_,none⟩) (TN hw389_3 GW390.out) _).trans (((cell_far (p:=⟨gb390,_,none⟩) (TN hw389_3 GW390.out) _).trans (((cell_far (p:=⟨gb390,_,none⟩) (TN hw389_3 GW390.out) _).trans (((cell_far (p:=⟨gb390,_,none⟩) (TN hw389_3 GW390.out) _).trans (((cell_far (p:=⟨gb390,_,none⟩) (TN hw389_3 GW390.out) _).trans (((cell_far (p:=⟨gb390,_,none⟩) (TN hw389_3 GW390.out) _).trans (hHeld.2.2.2.2.2.2.1)))))))))))),((cell_far (p:=⟨gb390,_,none⟩) (TN hw389_4 GW390.out) _).trans (((cell_far (p:=⟨gb390,_,none⟩) (TN hw389_4 GW390.out) _).trans (((cell_far (p:=⟨gb390,_,none⟩) (TN hw389_4 GW390.out) _).trans (((cell_far (p:=⟨gb390,_,none⟩) (TN hw389_4 GW390.out) _).trans (((cell_far (p:=⟨gb390,_,none⟩) (TN hw389_4 GW390.out) _).trans (((cell_far (p:=⟨gb390,_,none⟩) (TN hw389_4 GW390.out) _).trans (hHeld.2.2.2.2.2.2.2.1)))))))))))),((cell_far (p:=⟨gb390,_,none⟩) (TN hw389_5 GW390.out) _).trans (((cell_far (p:=⟨gb390,_,none⟩) (TN hw389_5 GW390.out) _).trans (((cell_far (p:=⟨gb390,_,none⟩) (TN hw389_5 GW390.out) _).trans (((cell_far (p:=⟨gb390,_,none⟩) (TN hw389_5 GW390.out) _).trans (((cell_far (p:=⟨gb390,_,none⟩) (TN hw389_5 GW390.out) _).trans (((cell_far (p:=⟨gb390,_,none⟩) (TN hw389_5 GW390.out) _).trans (hHeld.2.2.2.2.2.2.2.2))))))))))))⟩ (fun hHeld=>?_)
       clear hK K
       refine done_ (done_of HT_.out TK) ?_
       try go_wp2
       have n0_:Aside0 (Kd.R k42 42 ((((((w22.setCell ⟨gb390,0,none⟩ (.int .i64 ((rd_T40 l0_0 (rd t382 x9_3)).f0))).setCell ⟨gb390,1,none⟩ (.int .i64 ((rd_T40 l0_0 (rd t382 x9_3)).f1))).setCell ⟨gb390,2,none⟩ (.int .i64 ((rd_T40 l0_0 (rd t382 x9_3)).f2))).setCell ⟨gb390,3,none⟩ (.int .i64 ((rd_T40 l0_0 (rd t382 x9_3)).f3))).setCell ⟨gb390,4,none⟩ (.int .i64 ((rd_T40 l0_0 (rd t382 x9_3)).f4))).setCell ⟨gb390,5,none⟩ (.int .i64 ((rd_T40 l0_0 (rd t382 x9_3)).f5))) w.heap.size (fun _=>True) u7 x7_3):=⟨RU (Kd.R_mono (Kd.R_far (p:=⟨gb390,5,none⟩) (Kd.R_far (p:=⟨gb390,4,none⟩) (Kd.R_far (p:=⟨gb390,3,none⟩) (Kd.R_far (p:=⟨gb390,2,none⟩) (Kd.R_far (p:=⟨gb390,1,none⟩) (Kd.R_far (p:=⟨gb390,0,none⟩) (Kd.R_types HO_7.out BK390.out (by decide)) (fun _ hk=>hk.2) (.int .i64 ((rd_T40 l0_0 (rd t382 x9_3)).f0))) (fun _ hk=>hk.2) (.int .i64 ((rd_T40 l0_0 (rd t382 x9_3)).f1))) (fun _ hk=>hk.2) (.int .i64 ((rd_T40 l0_0 (rd t382 x9_3)).f2))) (fun _ hk=>hk.2) (.int .i64 ((rd_T40 l0_0 (rd t382 x9_3)).f3))) (fun _ hk=>hk.2) (.int .i64 ((rd_T40 l0_0 (rd t382 x9_3)).f4))) (fun _ hk=>hk.2) (.int .i64 ((rd_T40 l0_0 (rd t382 x9_3)).f5))) (fun _ hk=>trivial))⟩
       have n1_:Aside0 (Kd.R (Kd.int .i64) 3 ((((((w22.setCell ⟨gb390,0,none⟩ (.int .i64 ((rd_T40 l0_0 (rd t382 x9_3)).f0))).setCell ⟨gb390,1,none⟩ (.int .i64 ((rd_T40 l0_0 (rd t382 x9_3)).f1))).setCell ⟨gb390,2,none⟩ (.int .i64 ((rd_T40 l0_0 (rd t382 x9_3)).f2))).setCell ⟨gb390,3,none⟩ (.int .i64 ((rd_T40 l0_0 (rd t382 x9_3)).f3))).setCell ⟨gb390,4,none⟩ (.int .i64 ((rd_T40 l0_0 (rd t382 x9_3)).f4))).setCell ⟨gb390,5,none⟩ (.int .i64 ((rd_T40 l0_0 (rd t382 x9_3)).f5))) w.heap.size (fun _=>True) (.slice (some ad388) t382.length co20) t382):=⟨RU (Kd.R_mono (Kd.R_far (p:=⟨gb390,5,none⟩) (Kd.R_far (p:=⟨gb390,4,none⟩) (Kd.R_far (p:=⟨gb390,3,none⟩) (Kd.R_far (p:=⟨gb390,2,none⟩) (Kd.R_far (p:=⟨gb390,1,none⟩) (Kd.R_far (p:=⟨gb390,0,none⟩) (Kd.R_types HO_8.out BK390.out (by decide)) (fun _ hk=>hk.2) (.int .i64 ((rd_T40 l0_0 (rd t382 x9_3)).f0))) (fun _ hk=>hk.2) (.int .i64 ((rd_T40 l0_0 (rd t382 x9_3)).f1))) (fun _ hk=>hk.2) (.int .i64 ((rd_T40 l0_0 (rd t382 x9_3)).f2))) (fun _ hk=>hk.2) (.int .i64 ((rd_T40 l0_0 (rd t382 x9_3)).f3))) (fun _ hk=>hk.2) (.int .i64 ((rd_T40 l0_0 (rd t382 x9_3)).f4))) (fun _ hk=>hk.2) (.int .i64 ((rd_T40 l0_0 (rd t382 x9_3)).f5))) (fun _ hk=>trivial))⟩
       have n2_:Aside0 (((((((w22.setCell ⟨gb390,0,none⟩ (.int .i64 ((rd_T40 l0_0 (rd t382 x9_3)).f0))).setCell ⟨gb390,1,none⟩ (.int .i64 ((rd_T40 l0_0 (rd t382 x9_3)).f1))).setCell ⟨gb390,2,none⟩ (.int .i64 ((rd_T40 l0_0 (rd t382 x9_3)).f2))).setCell ⟨gb390,3,none⟩ (.int .i64 ((rd_T40 l0_0 (rd t382 x9_3)).f3))).setCell ⟨gb390,4,none⟩ (.int .i64 ((rd_T40 l0_0 (rd t382 x9_3)).f4))).setCell ⟨gb390,5,none⟩ (.int .i64 ((rd_T40 l0_0 (rd t382 x9_3)).f5))).heap[gb378]?=some (.cells #[.slice (some ad389) l0_0.length c0_0,.slice A0_1 l0_1.length c0_1] 59 (0,0))):=⟨by refine blk_far ?_ NB378_390.out _;refine blk_far ?_ NB378_390.out _;refine blk_far ?_ NB378_390.out _;refine blk_far ?_ NB378_390.out _;refine blk_far ?_ NB378_390.out _;refine blk_far ?_ NB378_390.out _;exact BK378.out⟩
       have n3_:Aside0 (((((((w22.setCell ⟨gb390,0,none⟩ (.int .i64 ((rd_T40 l0_0 (rd t382 x9_3)).f0))).setCell ⟨gb390,1,none⟩ (.int .i64 ((rd_T40 l0_0 (rd t382 x9_3)).f1))).setCell ⟨gb390,2,none⟩ (.int .i64 ((rd_T40 l0_0 (rd t382 x9_3)).f2))).setCell ⟨gb390,3,none⟩ (.int .i64 ((rd_T40 l0_0 (rd t382 x9_3)).f3))).setCell ⟨gb390,4,none⟩ (.int .i64 ((rd_T40 l0_0 (rd t382 x9_3)).f4))).setCell ⟨gb390,5,none⟩ (.int .i64 ((rd_T40 l0_0 (rd t382 x9_3)).f5))).heap[gb390]?=some (.cells #[.int .i64 ((rd_T40 l0_0 (rd t382 x9_3)).f0),.int .i64 ((rd_T40 l0_0 (rd t382 x9_3)).f1),.int .i64 ((rd_T40 l0_0 (rd t382 x9_3)).f2),.int .i64 ((rd_T40 l0_0 (rd t382 x9_3)).f3),.int .i64 ((rd_T40 l0_0 (rd t382 x9_3)).f4),.int .i64 ((rd_T40 l0_0 (rd t382 x9_3)).f5)] 40 (0,0))):=⟨by refine blk_put (cs:= #[.int .i64 ((rd_T40 l0_0 (rd t382 x9_3)).f0),.int .i64 ((rd_T40 l0_0 (rd t382 x9_3)).f1),.int .i64 ((rd_T40 l0_0 (rd t382 x9_3)).f2),.int .i64 ((rd_T40 l0_0 (rd t382 x9_3)).f3),.int .i64 ((rd_T40 l0_0 (rd t382 x9_3)).f4),.int .i64 0]) ?_ 5 _ rfl;refine blk_put (cs:= #[.int .i64 ((rd_T40 l0_0 (rd t382 x9_3)).f0),.int .i64 ((rd_T40 l0_0 (rd t382 x9_3)).f1),.int .i64 ((rd_T40 l0_0 (rd t382 x9_3)).f2),.int .i64 ((rd_T40 l0_0 (rd t382 x9_3)).f3),.int .i64 0,.int .i64 0]) ?_ 4 _ rfl;refine blk_put (cs:= #[.int .i64 ((rd_T40 l0_0 (rd t382 x9_3)).f0),.int .i64 ((rd_T40 l0_0 (rd t382 x9_3)).f1),.int .i64 ((rd_T40 l0_0 (rd t382 x9_3)).f2),.int .i64 0,.int .i64 0,.int .i64 0]) ?_ 3 _ rfl;refine blk_put (cs:= #[.int .i64 ((rd_T40 l0_0 (rd t382 x9_3)).f0),.int .i64 ((rd_T40 l0_0 (rd t382 x9_3)).f1),.int .i64 0,.int .i64 0,.int .i64 0,.int .i64 0]) ?_ 2 _ rfl;refine blk_put (cs:= #[.int .i64 ((rd_T40 l0_0 (rd t382 x9_3)).f0),.int .i64 0,.int .i64 0,.int .i64 0,.int .i64 0,.int .i64 0]) ?_ 1 _ rfl;refine blk_put (cs:= #[.int .i64 0,.int .i64 0,.int .i64 0,.int .i64 0,.int .i64 0,.int .i64 0]) ?_ 0 _ rfl;exact BK390.out⟩
       have n4_:Aside0 (Below w.heap.size w ((((((w22.setCell ⟨gb390,0,none⟩ (.int .i64 ((rd_T40 l0_0 (rd t382 x9_3)).f0))).setCell ⟨gb390,1,none⟩ (.int .i64 ((rd_T40 l0_0 (rd t382 x9_3)).f1))).setCell ⟨gb390,2,none⟩ (.int .i64 ((rd_T40 l0_0 (rd t382 x9_3)).f2))).setCell ⟨gb390,3,none⟩ (.int .i64 ((rd_T40 l0_0 (rd t382 x9_3)).f3))).setCell ⟨gb390,4,none⟩ (.int .i64 ((rd_T40 l0_0 (rd t382 x9_3)).f4))).setCell ⟨gb390,5,none⟩ (.int .i64 ((rd_T40 l0_0 (rd t382 x9_3)).f5)))):=⟨TB⟩
       (try clear HO_7)
       (try clear HO_8)
       (try clear BK378)
       (try clear BK390)
       (try clear HB)
       generalize ((((((w22.setCell ⟨gb390,0,none⟩ (.int .i64 ((rd_T40 l0_0 (rd t382 x9_3)).f0))).setCell ⟨gb390,1,none⟩ (.int .i64 ((rd_T40 l0_0 (rd t382 x9_3)).f1))).setCell ⟨gb390,2,none⟩ (.int .i64 ((rd_T40 l0_0 (rd t382 x9_3)).f2))).setCell ⟨gb390,3,none⟩ (.int .i64 ((rd_T40 l0_0 (rd t382 x9_3)).f3))).setCell ⟨gb390,4,none⟩ (.int .i64 ((rd_T40 l0_0 (rd t382 x9_3)).f4))).setCell ⟨gb390,5,none⟩ (.int .i64 ((rd_T40 l0_0 (rd t382 x9_3)).f5)))=w29 at n0_ n1_ n2_ n3_ n4_ ⊢
       have HO_7:=n0_
       have HO_8:=n1_
       have BK378:=n2_
       have BK390:=n3_
       have HB:=n4_
       clear n0_ n1_ n2_ n3_ n4_
       replace HO_7:=Am (Kd.R_drew HO_7.out)
       replace HO_8:=Am (Kd.R_drew HO_8.out)
       replace BK378:=Am (blk_drew BK378.out)
       replace BK390:=Am (blk_drew BK390.out)
       replace HB:=Am (below_drew1 HB.out)
       have p391:0≤(x9_3:Int):=tD
       have q391:x9_3 < (t382.length:Int):=tD
       obtain ⟨ad391,e391,hx391_0⟩:=Kd.at_int (Kd.R_reads' HO_8.out).2.2 x9_3 p391 q391
       obtain rfl:ad388=ad391:=(by injection e391)
       replace p391:=eq_true p391
       replace q391:=eq_true q391
       have p392:0≤((rd t382 x9_3):Int):=tD
       have q392:(rd t382 x9_3) < (l0_1.length:Int):=tD
       obtain ⟨ad392,e392,hx392_0⟩:=Kd.at_int HR0_1.out (rd t382 x9_3) p392 q392
       have hw392_0:=hx392_0
       cases e392
       replace hx392_0:=cellU HB.out hx392_0
       replace p392:=eq_true p392
       replace q392:=eq_true q392
       refine start_ (n:=12) (S:=fun w'=>w'.cell? ⟨gb390,0,none⟩=some (.int .i64 ((rd_T40 l0_0 (rd t382 x9_3)).f0))∧w'.cell? ⟨gb390,1,none⟩=some (.int .i64 ((rd_T40 l0_0 (rd t382 x9_3)).f1))∧w'.cell? ⟨gb390,2,none⟩=some (.int .i64 ((rd_T40 l0_0 (rd t382 x9_3)).f2))∧w'.cell? ⟨gb390,3,none⟩=some (.int .i64 ((rd_T40 l0_0 (rd t382 x9_3)).f3))∧w'.cell? ⟨gb390,4,none⟩=some (.int .i64 ((rd_T40 l0_0 (rd t382 x9_3)).f4))∧w'.cell? ⟨gb390,5,none⟩=some (.int .i64 ((rd_T40 l0_0 (rd t382 x9_3)).f5))∧w'.cell? ⟨gb378,0,none⟩=some (.slice (some ad389) l0_0.length c0_0)∧w'.cell? ⟨gb378,1,none⟩=some (.slice (some ad392) l0_1.length c0_1)∧w'.cell? (ad388.add (x9_3).toNat)=some (.int .i64 (rd t382 x9_3))∧w'.cell? (ad392.add ((rd t382 x9_3)).toNat)=some (.int .i64 (rd l0_1 (rd t382 x9_3)))) (ds:=[]) (bl 12 0) TK rfl rfl ⟨(blk_cell BK390.out 0).trans rfl,(blk_cell BK390.out 1).trans rfl,(blk_cell BK390.out 2).trans rfl,(blk_cell BK390.out 3).trans rfl,(blk_cell BK390.out 4).trans rfl,(blk_cell BK390.out 5).trans rfl,(blk_cell BK378.out 0).trans rfl,(blk_cell BK378.out 1).trans rfl,hx391_0,(cellU HB.out hw392_0)⟩ (fun hHeld=>?_);refine with_tabW q19_Text.tab9 q19_Text.bits9 (fun HT_ HW_=>?_)
       generalize w29.drew=w30 at HO_7 HO_8 BK378 BK390 HB hx391_0 hx392_0 hHeld ⊢
       refine pureS (i:=0) (N:=some 40) (bl 12 1) rfl rfl (any_of HT_.out TK) ?_
       refine pureS (i:=2) (N:=some 42) (bl 12 5) rfl rfl (any_of HT_.out TK) ?_
       refine pureS (i:=4) (N:=some 44) (bl 12 21) rfl rfl (any_of HT_.out TK) ?_
       refine pureS (i:=5) (N:=some 45) (bl 12 53) rfl rfl (any_of HT_.out TK) ?_
       refine pureS (i:=6) (N:=some 46) (bl 12 117) rfl rfl (any_of HT_.out TK) ?_
       refine take_ (i:=1) (N:=some 41) (v:=?_) (a':=?_) (bl 12 119) rfl rfl (take_ofW HT_.out HW_.out TK) (fun _ _ _ h=>h) (Or.inl ⟨by rfl,?_⟩) hHeld ?_ ?_
       rotate_left
       ·
        rintro w' ⟨s0,s1,s2,s3,s4,s5,s6,s7,s8,s9⟩
        go_simp
        with_reducible rfl
       rotate_left
       ·
        simp only [PT]
        rfl
       refine take_ (i:=3) (N:=some 43) (v:=?_) (a':=?_) (bl 12 127) rfl rfl (take_ofW HT_.out HW_.out TK) (fun _ _ _ h=>h) (Or.inl ⟨by rfl,?_⟩) hHeld ?_ ?_
       rotate_left
       ·
        rintro w' ⟨s0,s1,s2,s3,s4,s5,s6,s7,s8,s9⟩
        go_simp
        with_reducible rfl
       rotate_left
       ·
        simp only [PT]
        rfl
       refine take_ (i:=7) (N:=some 47) (v:=?_) (a':=?_) (bl 12 255) rfl rfl (take_ofW HT_.out HW_.out TK) (fun _ _ _ h=>h) (Or.inl ⟨by rfl,?_⟩) hHeld ?_ ?_
       rotate_left
       ·
        rintro w' ⟨s0,s1,s2,s3,s4,s5,s6,s7,s8,s9⟩
        go_simp
        with_reducible rfl
       rotate_left
       ·
        simp only [PT]
        rfl
       refine pureS (i:=8) (N:=some 48) (bl 12 511) rfl rfl (any_of HT_.out TK) ?_
       refine take_ (i:=9) (N:=some 49) (v:=?_) (a':=?_) (bl 12 1023) rfl rfl (take_ofW HT_.out HW_.out TK) (fun _ _ _ h=>h) (Or.inl ⟨by rfl,?_⟩) hHeld ?_ ?_
       rotate_left
       ·
        rintro w' ⟨s0,s1,s2,s3,s4,s5,s6,s7,s8,s9⟩
        go_simp
        with_reducible rfl
       rotate_left
       ·
        simp only [PT]
        rfl
       refine one_ (i:=10) (N:=some 50) (bl 12 2047) rfl rfl (one_of HT_.out TK) (by decide) (fun K hK=>?_)
       refine goes_ Try.func41 TK rfl #[.int .i64 ((rd_T40 l0_0 (rd t382 x9_3)).f5),.int .i64 (rd l0_1 (rd t382 x9_3))] (by rfl) rfl rfl TM ?_
       with_reducible refine (q16_Shown.calls k3 ((rd_T40 l0_0 (rd t382 x9_3)).f5) (rd l0_1 (rd t382 x9_3)) t393 _ A19.out).mono ?_
       rintro e w31 ⟨rfl,hb⟩
       have HS8_:=(hb.cell (World.block_lt_of_cell? _ _ (hHeld.2.2.2.2.2.2.2.2.1))).trans (hHeld.2.2.2.2.2.2.2.2.1)
       refine ⟨_,rfl,?_⟩
       replace HO_7:=Am (Kd.R_below (RU HO_7.out) hb)
       replace HO_8:=Am (Kd.R_below (RU HO_8.out) hb)
       replace BK378:=Am (blk_below (blkU BK378.out) hb)
       replace BK390:=Am (blk_below (blkU BK390.out) hb)
       replace HB:=Am (below_step TB hb)
       (try clear hb)
       (try clear hb2)
       (try clear hk)
       (try clear hi)
       refine hK.out _ _ ⟨(blk_cell BK390.out 0).trans rfl,(blk_cell BK390.out 1).trans rfl,(blk_cell BK390.out 2).trans rfl,(blk_cell BK390.out 3).trans rfl,(blk_cell BK390.out 4).trans rfl,(blk_cell BK390.out 5).trans rfl,(blk_cell BK378.out 0).trans rfl,(blk_cell BK378.out 1).trans rfl,HS8_,(cellU HB.out hw392_0)⟩ (fun hHeld=>?_)
       clear hK K
       refine norm_ (a':=?_) ?_ ?_
       rotate_left
       ·
        show Act.put _ (some 50) _=_
        simp only [PT]
        rfl
       refine pureS (i:=11) (N:=some 11) (bl 12 4095) rfl rfl (any_of HT_.out TK) ?_
       refine done_ (done_of HT_.out TK) ?_
       try go_wp2
       go_loopg [7,12] k3 (fun kq v7 v12 w'=> ∃ (x7_4:List (S42)) (x12_4:Int),v12= .int .i64 x12_4∧Aside0 (q19_Text.l1 kq a1 a2 x7_4 t382 x9_3 t393 x12_4 l0_0 l0_1 ((rd_T40 l0_0 (rd t382 x9_3)).f0) ((rd_T40 l0_0 (rd t382 x9_3)).f1) ((rd_T40 l0_0 (rd t382 x9_3)).f2) ((rd_T40 l0_0 (rd t382 x9_3)).f3) ((rd_T40 l0_0 (rd t382 x9_3)).f4) ((rd_T40 l0_0 (rd t382 x9_3)).f5)=some r)∧Aside0 (kq≤k3)∧Aside0 (Kd.R k42 42 w' w.heap.size (fun _=>True) v7 x7_4)∧Aside0 (Kd.R (Kd.int .i64) 3 w' w.heap.size (fun _=>True) (.slice (some ad388) t382.length co20) t382)∧Aside0 (w'.heap[gb378]?=some (.cells #[(.slice (some ad389) l0_0.length c0_0),(.slice (some ad392) l0_1.length c0_1)] 59 (0,0)))∧Aside0 (w'.heap[gb390]?=some (.cells #[.int .i64 ((rd_T40 l0_0 (rd t382 x9_3)).f0),.int .i64 ((rd_T40 l0_0 (rd t382 x9_3)).f1),.int .i64 ((rd_T40 l0_0 (rd t382 x9_3)).f2),.int .i64 ((rd_T40 l0_0 (rd t382 x9_3)).f3),.int .i64 ((rd_T40 l0_0 (rd t382 x9_3)).f4),.int .i64 ((rd_T40 l0_0 (rd t382 x9_3)).f5)] 40 (0,0)))∧Aside0 (Below w.heap.size w w'))
       case atStart=>exact ⟨(x7_3),(0),TS,H',⟨Nat.le_refl _⟩,⟨RU HO_7.out⟩,⟨RU HO_8.out⟩,⟨blkU BK378.out⟩,⟨blkU BK390.out⟩,⟨TB⟩⟩
       case round =>
        clear H'
        obtain ⟨x7_4,x12_4,rfl,HA,HK4,HO_7,HO_8,BK378,BK390,HB⟩:=hrel
        cases gk with
        | zero=>exact absurd HA.out (by simp [q19_Text.l1])
        | succ k4 =>
         have H:=HA.out
         clear HA
         simp only [q19_Text.l1] at H
         by_cases c32:x12_4 < ((rd_T40 l0_0 (rd t382 x9_3)).f4)
         rotate_left
         ·
          rw [if_neg c32] at H
          have c32b0:decide (x12_4 < ((rd_T40 l0_0 (rd t382 x9_3)).f4))=false:=decide_eq_false c32
          clear c32
          have H':=Am H
          clear H
          have hnb37:=NB390_378.out
          have hnc37:=NB378_390.out
          obtain ⟨hcz38_0,hcz38_1,hcz38_2,hcz38_3,hcz38_4,hcz38_5⟩:=blkC6 BK390.out
          obtain ⟨hfz38_0,hfz38_1,hfz38_2,hfz38_3,hfz38_4,hfz38_5⟩:=blkF6 BK390.out
          go_wp2
          go_roundg k4
          case measure=>have:=HJ3.out;have:=HJ6.out;have:=HK3.out;have:=HK4.out;omega
          case rel=>exact ⟨(x7_4),(wrap64 (x9_3+1)),TS,H',⟨by have:=HJ3.out;have:=HJ6.out;have:=HK3.out;have:=HK4.out;omega⟩,⟨RU HO_7.out⟩,⟨RU HO_8.out⟩,⟨blkU BK378.out⟩,⟨TB⟩⟩
         rw [if_pos c32] at H
         have c32b0:decide (x12_4 < ((rd_T40 l0_0 (rd t382 x9_3)).f4))=true:=decide_eq_true c32
         clear c32
         obtain ⟨c33,H⟩:=ifS H
         have LMc33:=Am c33
         clear c33
         obtain ⟨y394,hy394⟩: ∃ y_:List (S42),y_=(x7_4++[(⟨4,0,0,((rd_T40 l0_0 (rd t382 x9_3)).f0),x12_4,t393⟩:S42)]):=⟨_,rfl⟩
         replace H:(q19_Text.l1 k4 a1 a2 y394 t382 x9_3 t393 (wrap64 (x12_4+1)) l0_0 l0_1 ((rd_T40 l0_0 (rd t382 x9_3)).f0) ((rd_T40 l0_0 (rd t382 x9_3)).f1) ((rd_T40 l0_0 (rd t382 x9_3)).f2) ((rd_T40 l0_0 (rd t382 x9_3)).f3) ((rd_T40 l0_0 (rd t382 x9_3)).f4) ((rd_T40 l0_0 (rd t382 x9_3)).f5))=some r:=by first|(rw [hy394];with_reducible exact H)|(have H2_:=(Option.bind_some _ _).symm.trans H;rw [hy394];with_reducible exact H2_)|(have H2_:=(Option.bind_some _ _).symm.trans H;with_reducible exact H2_)|with_reducible exact H|(rw [hy394];exact H)|exact H
         have Ny394:=Am hy394
         clear hy394
         have H':=Am H
         clear H
         have hnb34:=NB390_378.out
         have hnc34:=NB378_390.out
         obtain ⟨hcz35_0,hcz35_1,hcz35_2,hcz35_3,hcz35_4,hcz35_5⟩:=blkC6 BK390.out
         obtain ⟨hfz35_0,hfz35_1,hfz35_2,hfz35_3,hfz35_4,hfz35_5⟩:=blkF6 BK390.out
         go_wp2_with (first|((with_reducible refine gate_builtin (b:= .append) (xs:= #[.tmp 57,.tmp 63]) rfl ?_);at_builtin;refine Kd.R_append k42 (w0:=w) w.heap.size rfl (.tmp 57) (.tmp 63) 27 42 (.agg #[(.int .i64 0),(.int .i64 0),(.int .i64 0),(.int .i64 0),(.int .i64 0),(.int .i64 0)]) 48 rfl Try.underlying27 info42 rfl (by decide) (by omega) u7 x7_4 (⟨4,0,0,((rd_T40 l0_0 (rd t382 x9_3)).f0),x12_4,t393⟩:S42) [.int .i64 4,.int .i64 0,.int .i64 0,.int .i64 ((rd_T40 l0_0 (rd t382 x9_3)).f0),.int .i64 x12_4,.int .i64 t393] (fun _=>True) (fun _=>False) rfl rfl ?aP (fun _ hk=>hk.elim) ?aF ?aO ?aB ?aS ?aL ?_;(case aP=>exact k42_mkM _ _ _ (⟨4,0,0,((rd_T40 l0_0 (rd t382 x9_3)).f0),x12_4,t393⟩:S42));(case aB=>exact TB);(case aF=>exact (fun _ _=>trivial));(case aO=>exact (RU HO_7.out));(case aS=>exact (below_size TB));(case aL=>have:=LMc33.out;omega);intro v395 w36 ho hb hg hat;rw [← Ny394.out] at ho;replace HO_8:=Am (Kd.R_over' (RU HO_8.out) (Kd.R_typed (RU HO_7.out)) (by decide) hg);replace BK378:=Am (blk_grown (g:=gb378) (o:= .cells #[.slice (some ad389) l0_0.length c0_0,.slice (some ad392) l0_1.length c0_1] 59 (0,0)) (blkU BK378.out) hg (Kd.R_ne HO_7.out BK378.out (by decide)));replace BK390:=Am (blk_grown (g:=gb390) (o:= .cells #[.int .i64 ((rd_T40 l0_0 (rd t382 x9_3)).f0),.int .i64 ((rd_T40 l0_0 (rd t382 x9_3)).f1),.int .i64 ((rd_T40 l0_0 (rd t382 x9_3)).f2),.int .i64 ((rd_T40 l0_0 (rd t382 x9_3)).f3),.int .i64 ((rd_T40 l0_0 (rd t382 x9_3)).f4),.int .i64 ((rd_T40 l0_0 (rd t382 x9_3)).f5)] 40 (0,0)) (blkU BK390.out) hg (Kd.R_ne HO_7.out BK390.out (by decide)));have HO396:=Am (ho);replace HB:=Am (hb);clear HO_7;clear ho hb hg hat))
         go_roundg k4
         case measure=>have:=HJ3.out;have:=HJ6.out;have:=HK3.out;have:=HK4.out;omega
         case rel=>exact ⟨(y394),(wrap64 (x12_4+1)),TS,H',⟨by have:=HJ3.out;have:=HJ6.out;have:=HK3.out;have:=HK4.out;omega⟩,⟨RU HO396.out⟩,⟨RU HO_8.out⟩,⟨blkU BK378.out⟩,⟨blkU BK390.out⟩,⟨TB⟩⟩
def q02_Table.L1:List Int:=[1424,1424,1470,1470,1472,1472,1475,1475,1478,1478,1480,1535,8207,8207,64285,64285,64287,64296,64298,64335]
def q02_Table.L2:List Int:=[1544,1544,1547,1547,1549,1549,1563,1610,1645,1647,1649,1749,1765,1766,1774,1775,1786,1791,1872,1919,65136,65278]
def q02_Table.L3:List Int:=[48,57,178,179,185,185,1776,1785,8304,8304,8308,8313,8320,8329,9352,9371,65296,65305]
def q02_Table.L4:List Int:=[43,43,45,45,8314,8315,8330,8331,8722,8722,64297,64297,65122,65123,65291,65291,65293,65293]
def q02_Table.L5:List Int:=[35,37,162,165,176,177,1423,1423,1545,1546,1642,1642,8240,8244,8352,8399,8723,8723,65119,65119,65129,65130,65283,65285,65504,65505,65509,65510]
def q02_Table.L6:List Int:=[1536,1541,1632,1641,1643,1644,1757,1757,2274,2274]
def q02_Table.L7:List Int:=[44,44,46,47,58,58,160,160,1548,1548,8239,8239,8260,8260,65104,65104,65106,65106,65109,65109,65292,65292,65294,65295,65306,65306]
def q02_Table.L8:List Int:=[768,879,1155,1161,1425,1469,1471,1471,1473,1474,1476,1477,1479,1479,1552,1562,1611,1631,1648,1648,1750,1756,1759,1764,1767,1768,1770,1773,2364,2364,2369,2376,2381,2381,8400,8432,12330,12333,12441,12442,64286,64286,65024,65039,65056,65071,917760,917999]
def q02_Table.L9:List Int:=[0,8,14,27,127,132,134,159,173,173,8203,8205,8288,8293,8298,8303,65279,65279]
def q02_Table.L10:List Int:=[10,10,13,13,28,30,133,133,8233,8233]
def q02_Table.L11:List Int:=[9,9,11,11,31,31]
def q02_Table.L12:List Int:=[12,12,32,32,5760,5760,8192,8202,8232,8232,8287,8287,12288,12288]
def q02_Table.L13:List Int:=[33,34,38,42,59,64,91,96,123,126,161,161,166,169,171,172,174,175,180,180,182,184,187,191,215,215,247,247,1542,1543,1550,1551,1758,1758,1769,1769,8208,8231,8245,8259,8261,8286,8316,8318,8332,8334,8592,8721,8724,9013,9472,9899,9901,10239,11904,11929,12289,12292,12296,12320,12336,12336,65281,65282,65286,65290,65307,65312,65339,65344,65371,65381,65529,65533,127744,128591]
def q02_Table.L14:List Int:=[8234,8234]
def q02_Table.L15:List Int:=[8235,8235]
def q02_Table.L16:List Int:=[8236,8236]
def q02_Table.L17:List Int:=[8237,8237]
def q02_Table.L18:List Int:=[8238,8238]
def q02_Table.L19:List Int:=[8294,8294]
def q02_Table.L20:List Int:=[8295,8295]
def q02_Table.L21:List Int:=[8296,8296]
def q02_Table.L22:List Int:=[8297,8297]
def q02_Table.f:Option ((List (S148))):=some (([(⟨1,q02_Table.L1⟩:S148),(⟨2,q02_Table.L2⟩:S148),(⟨3,q02_Table.L3⟩:S148),(⟨4,q02_Table.L4⟩:S148),(⟨5,q02_Table.L5⟩:S148),(⟨6,q02_Table.L6⟩:S148),(⟨7,q02_Table.L7⟩:S148),(⟨8,q02_Table.L8⟩:S148),(⟨9,q02_Table.L9⟩:S148),(⟨10,q02_Table.L10⟩:S148),(⟨11,q02_Table.L11⟩:S148),(⟨12,q02_Table.L12⟩:S148),(⟨13,q02_Table.L13⟩:S148),(⟨14,q02_Table.L14⟩:S148),(⟨16,q02_Table.L15⟩:S148),(⟨18,q02_Table.L16⟩:S148),(⟨15,q02_Table.L17⟩:S148),(⟨17,q02_Table.L18⟩:S148),(⟨19,q02_Table.L19⟩:S148),(⟨20,q02_Table.L20⟩:S148),(⟨21,q02_Table.L21⟩:S148),(⟨22,q02_Table.L22⟩:S148)]:List (S148)))
theorem q02_Table.up {w W W' w':World} {v:Value} {xs:List Int} (h:(Kd.int .i64).R 3 W' W.heap.size (fun _=>True) v xs) (h1:w.heap.size≤W.heap.size) (hb:Below W'.heap.size W' w'):(Kd.int .i64).R 3 w' w.heap.size (fun k=>w.heap.size≤k) v xs :=
 Kd.R_lower (Kd.R_mono (Kd.R_bound (Kd.R_below h hb)) (fun k hk=>Nat.le_trans h1 hk.2.1)) h1
set_option maxHeartbeats 8000000 in
theorem q02_Table.calls (r:List (S148)) (w:World) (h:q02_Table.f=some r) :
  Calls Try.prog 106 #[] w fun e w'=> ∃ v0_:Value,e= .returned (v0_)∧Kd.N k148 148 w' w.heap.size (fun k_=>(w.heap.size≤k_)) v0_ r∧Below w.heap.size w w':=by
 have hu:=Try.underlying148
 have HB:=Am (Below.refl w.heap.size w)
 have H:(some (([(⟨1,q02_Table.L1⟩:S148),(⟨2,q02_Table.L2⟩:S148),(⟨3,q02_Table.L3⟩:S148),(⟨4,q02_Table.L4⟩:S148),(⟨5,q02_Table.L5⟩:S148),(⟨6,q02_Table.L6⟩:S148),(⟨7,q02_Table.L7⟩:S148),(⟨8,q02_Table.L8⟩:S148),(⟨9,q02_Table.L9⟩:S148),(⟨10,q02_Table.L10⟩:S148),(⟨11,q02_Table.L11⟩:S148),(⟨12,q02_Table.L12⟩:S148),(⟨13,q02_Table.L13⟩:S148),(⟨14,q02_Table.L14⟩:S148),(⟨16,q02_Table.L15⟩:S148),(⟨18,q02_Table.L16⟩:S148),(⟨15,q02_Table.L17⟩:S148),(⟨17,q02_Table.L18⟩:S148),(⟨19,q02_Table.L19⟩:S148),(⟨20,q02_Table.L20⟩:S148),(⟨21,q02_Table.L21⟩:S148),(⟨22,q02_Table.L22⟩:S148)]:List (S148))))=some r:=h
 clear h
 obtain ⟨y266,hy266⟩: ∃ y_:List (S148),y_=(([(⟨1,q02_Table.L1⟩:S148),(⟨2,q02_Table.L2⟩:S148),(⟨3,q02_Table.L3⟩:S148),(⟨4,q02_Table.L4⟩:S148),(⟨5,q02_Table.L5⟩:S148),(⟨6,q02_Table.L6⟩:S148),(⟨7,q02_Table.L7⟩:S148),(⟨8,q02_Table.L8⟩:S148),(⟨9,q02_Table.L9⟩:S148),(⟨10,q02_Table.L10⟩:S148),(⟨11,q02_Table.L11⟩:S148),(⟨12,q02_Table.L12⟩:S148),(⟨13,q02_Table.L13⟩:S148),(⟨14,q02_Table.L14⟩:S148),(⟨16,q02_Table.L15⟩:S148),(⟨18,q02_Table.L16⟩:S148),(⟨15,q02_Table.L17⟩:S148),(⟨17,q02_Table.L18⟩:S148),(⟨19,q02_Table.L19⟩:S148),(⟨20,q02_Table.L20⟩:S148),(⟨21,q02_Table.L21⟩:S148),(⟨22,q02_Table.L22⟩:S148)]:List (S148))):=⟨_,rfl⟩
 replace H:(some y266)=some r:=by first|(rw [hy266];with_reducible exact H)|(have H2_:=(Option.bind_some _ _).symm.trans H;rw [hy266];with_reducible exact H2_)|(have H2_:=(Option.bind_some _ _).symm.trans H;with_reducible exact H2_)|with_reducible exact H|(rw [hy266];exact H)|exact H
 have Ny266:=Am hy266
 clear hy266
 obtain rfl:=Option.some.inj H
 go_enter Try.func106,Try.ntmps106
 try dsimp only [List.append]
 go_wp2_with (first|((with_reducible refine gate_dst (N:=1) rfl ?_);refine Go.Proofs.YteoaegigjlhamaaH.row_event _ 3 rfl (N:=1) rfl 23 20 .i64 q02_Table.L1 ?ho TK Try.underlying23 TK TK (by decide) (by decide) (Below.refl _ _) (Nat.le_refl _) ?_;(case ho=>kernel_rfl);intro v w1 ho hb hg_ hnew_;clear hg_ hnew_;have H1:=Am ho;have B1:=Am hb;have S1:=Am (below_size HB.out);have n1_:=Am (below_step HB.out hb);clear HB;have HB:=n1_;clear n1_ ho hb;obtain ⟨Ao3,co3,e_⟩:=Kd.R_slice H1.out;subst e_)|((with_reducible refine gate_dst (N:=3) rfl ?_);refine Go.Proofs.YteoaegigjlhamaaH.row_event _ 3 rfl (N:=3) rfl 23 22 .i64 q02_Table.L2 ?ho TK Try.underlying23 TK TK (by decide) (by decide) (Below.refl _ _) (Nat.le_refl _) ?_;(case ho=>kernel_rfl);intro v w2 ho hb hg_ hnew_;clear hg_ hnew_;have H2:=Am ho;have B2:=Am hb;have S2:=Am (below_size HB.out);have n1_:=Am (below_step HB.out hb);clear HB;have HB:=n1_;clear n1_ ho hb;obtain ⟨Ao6,co6,e_⟩:=Kd.R_slice H2.out;subst e_)|((with_reducible refine gate_dst (N:=5) rfl ?_);refine Go.Proofs.YteoaegigjlhamaaH.row_event _ 3 rfl (N:=5) rfl 23 18 .i64 q02_Table.L3 ?ho TK Try.underlying23 TK TK (by decide) (by decide) (Below.refl _ _) (Nat.le_refl _) ?_;(case ho=>kernel_rfl);intro v w3 ho hb hg_ hnew_;clear hg_ hnew_;have H3:=Am ho;have B3:=Am hb;have S3:=Am (below_size HB.out);have n1_:=Am (below_step HB.out hb);clear HB;have HB:=n1_;clear n1_ ho hb;obtain ⟨Ao9,co9,e_⟩:=Kd.R_slice H3.out;subst e_)|((with_reducible refine gate_dst (N:=7) rfl ?_);refine Go.Proofs.YteoaegigjlhamaaH.row_event _ 3 rfl (N:=7) rfl 23 18 .i64 q02_Table.L4 ?ho TK Try.underlying23 TK TK (by decide) (by decide) (Below.refl _ _) (Nat.le_refl _) ?_;(case ho=>kernel_rfl);intro v w4 ho hb hg_ hnew_;clear hg_ hnew_;have H4:=Am ho;have B4:=Am hb;have S4:=Am (below_size HB.out);have n1_:=Am (below_step HB.out hb);clear HB;have HB:=n1_;clear n1_ ho hb;obtain ⟨Ao12,co12,e_⟩:=Kd.R_slice H4.out;subst e_)|((with_reducible refine gate_dst (N:=9) rfl ?_);refine Go.Proofs.YteoaegigjlhamaaH.row_event _ 3 rfl (N:=9) rfl 23 28 .i64 q02_Table.L5 ?ho TK Try.underlying23 TK TK (by decide) (by decide) (Below.refl _ _) (Nat.le_refl _) ?_;(case ho=>kernel_rfl);intro v w5 ho hb hg_ hnew_;clear hg_ hnew_;have H5:=Am ho;have B5:=Am hb;have S5:=Am (below_size HB.out);have n1_:=Am (below_step HB.out hb);clear HB;have HB:=n1_;clear n1_ ho hb;obtain ⟨Ao15,co15,e_⟩:=Kd.R_slice H5.out;subst e_)|((with_reducible refine gate_dst (N:=11) rfl ?_);refine Go.Proofs.YteoaegigjlhamaaH.row_event _ 3 rfl (N:=11) rfl 23 10 .i64 q02_Table.L6 ?ho TK Try.underlying23 TK TK (by decide) (by decide) (Below.refl _ _) (Nat.le_refl _) ?_;(case ho=>kernel_rfl);intro v w6 ho hb hg_ hnew_;clear hg_ hnew_;have H6:=Am ho;have B6:=Am hb;have S6:=Am (below_size HB.out);have n1_:=Am (below_step HB.out hb);clear HB;have HB:=n1_;clear n1_ ho hb;obtain ⟨Ao18,co18,e_⟩:=Kd.R_slice H6.out;subst e_)|((with_reducible refine gate_dst (N:=13) rfl ?_);refine Go.Proofs.YteoaegigjlhamaaH.row_event _ 3 rfl (N:=13) rfl 23 26 .i64 q02_Table.L7 ?ho TK Try.underlying23 TK TK (by decide) (by decide) (Below.refl _ _) (Nat.le_refl _) ?_;(case ho=>kernel_rfl);intro v w7 ho hb hg_ hnew_;clear hg_ hnew_;have H7:=Am ho;have B7:=Am hb;have S7:=Am (below_size HB.out);have n1_:=Am (below_step HB.out hb);clear HB;have HB:=n1_;clear n1_ ho hb;obtain ⟨Ao21,co21,e_⟩:=Kd.R_slice H7.out;subst e_)|((with_reducible refine gate_dst (N:=15) rfl ?_);refine Go.Proofs.YteoaegigjlhamaaH.row_event _ 3 rfl (N:=15) rfl 23 48 .i64 q02_Table.L8 ?ho TK Try.underlying23 TK TK (by decide) (by decide) (Below.refl _ _) (Nat.le_refl _) ?_;(case ho=>kernel_rfl);intro v w8 ho hb hg_ hnew_;clear hg_ hnew_;have H8:=Am ho;have B8:=Am hb;have S8:=Am (below_size HB.out);have n1_:=Am (below_step HB.out hb);clear HB;have HB:=n1_;clear n1_ ho hb;obtain ⟨Ao24,co24,e_⟩:=Kd.R_slice H8.out;subst e_)|((with_reducible refine gate_dst (N:=17) rfl ?_);refine Go.Proofs.YteoaegigjlhamaaH.row_event _ 3 rfl (N:=17) rfl 23 18 .i64 q02_Table.L9 ?ho TK Try.underlying23 TK TK (by decide) (by decide) (Below.refl _ _) (Nat.le_refl _) ?_;(case ho=>kernel_rfl);intro v w9 ho hb hg_ hnew_;clear hg_ hnew_;have H9:=Am ho;have B9:=Am hb;have S9:=Am (below_size HB.out);have n1_:=Am (below_step HB.out hb);clear HB;have HB:=n1_;clear n1_ ho hb;obtain ⟨Ao27,co27,e_⟩:=Kd.R_slice H9.out;subst e_)|((with_reducible refine gate_dst (N:=19) rfl ?_);refine Go.Proofs.YteoaegigjlhamaaH.row_event _ 3 rfl (N:=19) rfl 23 10 .i64 q02_Table.L10 ?ho TK Try.underlying23 TK TK (by decide) (by decide) (Below.refl _ _) (Nat.le_refl _) ?_;(case ho=>kernel_rfl);intro v w10 ho hb hg_ hnew_;clear hg_ hnew_;have H10:=Am ho;have B10:=Am hb;have S10:=Am (below_size HB.out);have n1_:=Am (below_step HB.out hb);clear HB;have HB:=n1_;clear n1_ ho hb;obtain ⟨Ao30,co30,e_⟩:=Kd.R_slice H10.out;subst e_)|((with_reducible refine gate_dst (N:=21) rfl ?_);refine Go.Proofs.YteoaegigjlhamaaH.row_event _ 3 rfl (N:=21) rfl 23 6 .i64 q02_Table.L11 ?ho TK Try.underlying23 TK TK (by decide) (by decide) (Below.refl _ _) (Nat.le_refl _) ?_;(case ho=>kernel_rfl);intro v w11 ho hb hg_ hnew_;clear hg_ hnew_;have H11:=Am ho;have B11:=Am hb;have S11:=Am (below_size HB.out);have n1_:=Am (below_step HB.out hb);clear HB;have HB:=n1_;clear n1_ ho hb;obtain ⟨Ao33,co33,e_⟩:=Kd.R_slice H11.out;subst e_)|((with_reducible refine gate_dst (N:=23) rfl ?_);refine Go.Proofs.YteoaegigjlhamaaH.row_event _ 3 rfl (N:=23) rfl 23 14 .i64 q02_Table.L12 ?ho TK Try.underlying23 TK TK (by decide) (by decide) (Below.refl _ _) (Nat.le_refl _) ?_;(case ho=>kernel_rfl);intro v w12 ho hb hg_ hnew_;clear hg_ hnew_;have H12:=Am ho;have B12:=Am hb;have S12:=Am (below_size HB.out);have n1_:=Am (below_step HB.out hb);clear HB;have HB:=n1_;clear n1_ ho hb;obtain ⟨Ao36,co36,e_⟩:=Kd.R_slice H12.out;subst e_)|((with_reducible refine gate_dst (N:=25) rfl ?_);refine Go.Proofs.YteoaegigjlhamaaH.row_event _ 3 rfl (N:=25) rfl 23 76 .i64 q02_Table.L13 ?ho TK Try.underlying23 TK TK (by decide) (by decide) (Below.refl _ _) (Nat.le_refl _) ?_;(case ho=>kernel_rfl);intro v w13 ho hb hg_ hnew_;clear hg_ hnew_;have H13:=Am ho;have B13:=Am hb;have S13:=Am (below_size HB.out);have n1_:=Am (below_step HB.out hb);clear HB;have HB:=n1_;clear n1_ ho hb;obtain ⟨Ao39,co39,e_⟩:=Kd.R_slice H13.out;subst e_)|((with_reducible refine gate_dst (N:=27) rfl ?_);refine Go.Proofs.YteoaegigjlhamaaH.row_event _ 3 rfl (N:=27) rfl 23 2 .i64 q02_Table.L14 ?ho TK Try.underlying23 TK TK (by decide) (by decide) (Below.refl _ _) (Nat.le_refl _) ?_;(case ho=>kernel_rfl);intro v w14 ho hb hg_ hnew_;clear hg_ hnew_;have H14:=Am ho;have B14:=Am hb;have S14:=Am (below_size HB.out);have n1_:=Am (below_step HB.out hb);clear HB;have HB:=n1_;clear n1_ ho hb;obtain ⟨Ao42,co42,e_⟩:=Kd.R_slice H14.out;subst e_)|((with_reducible refine gate_dst (N:=29) rfl ?_);refine Go.Proofs.YteoaegigjlhamaaH.row_event _ 3 rfl (N:=29) rfl 23 2 .i64 q02_Table.L15 ?ho TK Try.underlying23 TK TK (by decide) (by decide) (Below.refl _ _) (Nat.le_refl _) ?_;(case ho=>kernel_rfl);intro v w15 ho hb hg_ hnew_;clear hg_ hnew_;have H15:=Am ho;have B15:=Am hb;have S15:=Am (below_size HB.out);have n1_:=Am (below_step HB.out hb);clear HB;have HB:=n1_;clear n1_ ho hb;obtain ⟨Ao45,co45,e_⟩:=Kd.R_slice H15.out;subst e_)|((with_reducible refine gate_dst (N:=31) rfl ?_);refine Go.Proofs.YteoaegigjlhamaaH.row_event _ 3 rfl (N:=31) rfl 23 2 .i64 q02_Table.L16 ?ho TK Try.underlying23 TK TK (by decide) (by decide) (Below.refl _ _) (Nat.le_refl _) ?_;(case ho=>kernel_rfl);intro v w16 ho hb hg_ hnew_;clear hg_ hnew_;have H16:=Am ho;have B16:=Am hb;have S16:=Am (below_size HB.out);have n1_:=Am (below_step HB.out hb);clear HB;have HB:=n1_;clear n1_ ho hb;obtain ⟨Ao48,co48,e_⟩:=Kd.R_slice H16.out;subst e_)|((with_reducible refine gate_dst (N:=33) rfl ?_);refine Go.Proofs.YteoaegigjlhamaaH.row_event _ 3 rfl (N:=33) rfl 23 2 .i64 q02_Table.L17 ?ho TK Try.underlying23 TK TK (by decide) (by decide) (Below.refl _ _) (Nat.le_refl _) ?_;(case ho=>kernel_rfl);intro v w17 ho hb hg_ hnew_;clear hg_ hnew_;have H17:=Am ho;have B17:=Am hb;have S17:=Am (below_size HB.out);have n1_:=Am (below_step HB.out hb);clear HB;have HB:=n1_;clear n1_ ho hb;obtain ⟨Ao51,co51,e_⟩:=Kd.R_slice H17.out;subst e_)|((with_reducible refine gate_dst (N:=35) rfl ?_);refine Go.Proofs.YteoaegigjlhamaaH.row_event _ 3 rfl (N:=35) rfl 23 2 .i64 q02_Table.L18 ?ho TK Try.underlying23 TK TK (by decide) (by decide) (Below.refl _ _) (Nat.le_refl _) ?_;(case ho=>kernel_rfl);intro v w18 ho hb hg_ hnew_;clear hg_ hnew_;have H18:=Am ho;have B18:=Am hb;have S18:=Am (below_size HB.out);have n1_:=Am (below_step HB.out hb);clear HB;have HB:=n1_;clear n1_ ho hb;obtain ⟨Ao54,co54,e_⟩:=Kd.R_slice H18.out;subst e_)|((with_reducible refine gate_dst (N:=37) rfl ?_);refine Go.Proofs.YteoaegigjlhamaaH.row_event _ 3 rfl (N:=37) rfl 23 2 .i64 q02_Table.L19 ?ho TK Try.underlying23 TK TK (by decide) (by decide) (Below.refl _ _) (Nat.le_refl _) ?_;(case ho=>kernel_rfl);intro v w19 ho hb hg_ hnew_;clear hg_ hnew_;have H19:=Am ho;have B19:=Am hb;have S19:=Am (below_size HB.out);have n1_:=Am (below_step HB.out hb);clear HB;have HB:=n1_;clear n1_ ho hb;obtain ⟨Ao57,co57,e_⟩:=Kd.R_slice H19.out;subst e_)|((with_reducible refine gate_dst (N:=39) rfl ?_);refine Go.Proofs.YteoaegigjlhamaaH.row_event _ 3 rfl (N:=39) rfl 23 2 .i64 q02_Table.L20 ?ho TK Try.underlying23 TK TK (by decide) (by decide) (Below.refl _ _) (Nat.le_refl _) ?_;(case ho=>kernel_rfl);intro v w20 ho hb hg_ hnew_;clear hg_ hnew_;have H20:=Am ho;have B20:=Am hb;have S20:=Am (below_size HB.out);have n1_:=Am (below_step HB.out hb);clear HB;have HB:=n1_;clear n1_ ho hb;obtain ⟨Ao60,co60,e_⟩:=Kd.R_slice H20.out;subst e_)|((with_reducible refine gate_dst (N:=41) rfl ?_);refine Go.Proofs.YteoaegigjlhamaaH.row_event _ 3 rfl (N:=41) rfl 23 2 .i64 q02_Table.L21 ?ho TK Try.underlying23 TK TK (by decide) (by decide) (Below.refl _ _) (Nat.le_refl _) ?_;(case ho=>kernel_rfl);intro v w21 ho hb hg_ hnew_;clear hg_ hnew_;have H21:=Am ho;have B21:=Am hb;have S21:=Am (below_size HB.out);have n1_:=Am (below_step HB.out hb);clear HB;have HB:=n1_;clear n1_ ho hb;obtain ⟨Ao63,co63,e_⟩:=Kd.R_slice H21.out;subst e_)|((with_reducible refine gate_dst (N:=43) rfl ?_);refine Go.Proofs.YteoaegigjlhamaaH.row_event _ 3 rfl (N:=43) rfl 23 2 .i64 q02_Table.L22 ?ho TK Try.underlying23 TK TK (by decide) (by decide) (Below.refl _ _) (Nat.le_refl _) ?_;(case ho=>kernel_rfl);intro v w22 ho hb hg_ hnew_;clear hg_ hnew_;have H22:=Am ho;have B22:=Am hb;have S22:=Am (below_size HB.out);have n1_:=Am (below_step HB.out hb);clear HB;have HB:=n1_;clear n1_ ho hb;obtain ⟨Ao66,co66,e_⟩:=Kd.R_slice H22.out;subst e_;have T22:=Am (Below.refl w22.heap.size w22);have T21:=Am (below_step B22.out T22.out);have T20:=Am (below_step B21.out T21.out);have T19:=Am (below_step B20.out T20.out);have T18:=Am (below_step B19.out T19.out);have T17:=Am (below_step B18.out T18.out);have T16:=Am (below_step B17.out T17.out);have T15:=Am (below_step B16.out T16.out);have T14:=Am (below_step B15.out T15.out);have T13:=Am (below_step B14.out T14.out);have T12:=Am (below_step B13.out T13.out);have T11:=Am (below_step B12.out T12.out);have T10:=Am (below_step B11.out T11.out);have T9:=Am (below_step B10.out T10.out);have T8:=Am (below_step B9.out T9.out);have T7:=Am (below_step B8.out T8.out);have T6:=Am (below_step B7.out T7.out);have T5:=Am (below_step B6.out T6.out);have T4:=Am (below_step B5.out T5.out);have T3:=Am (below_step B4.out T4.out);have T2:=Am (below_step B3.out T3.out);have T1:=Am (below_step B2.out T2.out);have X1:=Am (q02_Table.up H1.out S1.out T1.out);have X2:=Am (q02_Table.up H2.out S2.out T2.out);have X3:=Am (q02_Table.up H3.out S3.out T3.out);have X4:=Am (q02_Table.up H4.out S4.out T4.out);have X5:=Am (q02_Table.up H5.out S5.out T5.out);have X6:=Am (q02_Table.up H6.out S6.out T6.out);have X7:=Am (q02_Table.up H7.out S7.out T7.out);have X8:=Am (q02_Table.up H8.out S8.out T8.out);have X9:=Am (q02_Table.up H9.out S9.out T9.out);have X10:=Am (q02_Table.up H10.out S10.out T10.out);have X11:=Am (q02_Table.up H11.out S11.out T11.out);have X12:=Am (q02_Table.up H12.out S12.out T12.out);have X13:=Am (q02_Table.up H13.out S13.out T13.out);have X14:=Am (q02_Table.up H14.out S14.out T14.out);have X15:=Am (q02_Table.up H15.out S15.out T15.out);have X16:=Am (q02_Table.up H16.out S16.out T16.out);have X17:=Am (q02_Table.up H17.out S17.out T17.out);have X18:=Am (q02_Table.up H18.out S18.out T18.out);have X19:=Am (q02_Table.up H19.out S19.out T19.out);have X20:=Am (q02_Table.up H20.out S20.out T20.out);have X21:=Am (q02_Table.up H21.out S21.out T21.out);have X22:=Am (q02_Table.up H22.out S22.out T22.out))|((with_reducible refine gate_dst (N:=45) rfl ?_);refine Kd.N_lit k148 _ 148 ?hg (N':=45) ?hd (xs:=([(⟨1,q02_Table.L1⟩:S148),(⟨2,q02_Table.L2⟩:S148),(⟨3,q02_Table.L3⟩:S148),(⟨4,q02_Table.L4⟩:S148),(⟨5,q02_Table.L5⟩:S148),(⟨6,q02_Table.L6⟩:S148),(⟨7,q02_Table.L7⟩:S148),(⟨8,q02_Table.L8⟩:S148),(⟨9,q02_Table.L9⟩:S148),(⟨10,q02_Table.L10⟩:S148),(⟨11,q02_Table.L11⟩:S148),(⟨12,q02_Table.L12⟩:S148),(⟨13,q02_Table.L13⟩:S148),(⟨14,q02_Table.L14⟩:S148),(⟨16,q02_Table.L15⟩:S148),(⟨18,q02_Table.L16⟩:S148),(⟨15,q02_Table.L17⟩:S148),(⟨17,q02_Table.L18⟩:S148),(⟨19,q02_Table.L19⟩:S148),(⟨20,q02_Table.L20⟩:S148),(⟨21,q02_Table.L21⟩:S148),(⟨22,q02_Table.L22⟩:S148)]:List (S148))) (inner:=[.int .i64 1,.slice Ao3 q02_Table.L1.length co3,.int .i64 2,.slice Ao6 q02_Table.L2.length co6,.int .i64 3,.slice Ao9 q02_Table.L3.length co9,.int .i64 4,.slice Ao12 q02_Table.L4.length co12,.int .i64 5,.slice Ao15 q02_Table.L5.length co15,.int .i64 6,.slice Ao18 q02_Table.L6.length co18,.int .i64 7,.slice Ao21 q02_Table.L7.length co21,.int .i64 8,.slice Ao24 q02_Table.L8.length co24,.int .i64 9,.slice Ao27 q02_Table.L9.length co27,.int .i64 10,.slice Ao30 q02_Table.L10.length co30,.int .i64 11,.slice Ao33 q02_Table.L11.length co33,.int .i64 12,.slice Ao36 q02_Table.L12.length co36,.int .i64 13,.slice Ao39 q02_Table.L13.length co39,.int .i64 14,.slice Ao42 q02_Table.L14.length co42,.int .i64 16,.slice Ao45 q02_Table.L15.length co45,.int .i64 18,.slice Ao48 q02_Table.L16.length co48,.int .i64 15,.slice Ao51 q02_Table.L17.length co51,.int .i64 17,.slice Ao54 q02_Table.L18.length co54,.int .i64 19,.slice Ao57 q02_Table.L19.length co57,.int .i64 20,.slice Ao60 q02_Table.L20.length co60,.int .i64 21,.slice Ao63 q02_Table.L21.length co63,.int .i64 22,.slice Ao66 q02_Table.L22.length co66]) (ok:=(fun k_=>(w.heap.size≤k_))) (okp:=(fun k_=>(w.heap.size≤k_))) ?hr ?hp (fun _ hk=>hk) ((show ∀ k_,w22.heap.size≤k_→(fun k_=>(w.heap.size≤k_)) k_ from fun k_ hk=>(Nat.le_trans (below_size HB.out) hk)) _ (Nat.le_refl _)) (Below.refl _ _) (Nat.le_refl _) (by simp) ?_;(case hd=>rfl);(case hg=>rfl);(case hr=>exact TG);(case hp=>exact (Reps.c2 (show Kd.FK k148 _ _ (⟨1,q02_Table.L1⟩:S148) [.int .i64 1,.slice Ao3 q02_Table.L1.length co3] from (k148_mkF _ _ (⟨1,q02_Table.L1⟩:S148) (Kd.R_reads' X1.out).2.1 (Kd.R_F X1.out))) (Reps.c2 (show Kd.FK k148 _ _ (⟨2,q02_Table.L2⟩:S148) [.int .i64 2,.slice Ao6 q02_Table.L2.length co6] from (k148_mkF _ _ (⟨2,q02_Table.L2⟩:S148) (Kd.R_reads' X2.out).2.1 (Kd.R_F X2.out))) (Reps.c2 (show Kd.FK k148 _ _ (⟨3,q02_Table.L3⟩:S148) [.int .i64 3,.slice Ao9 q02_Table.L3.length co9] from (k148_mkF _ _ (⟨3,q02_Table.L3⟩:S148) (Kd.R_reads' X3.out).2.1 (Kd.R_F X3.out))) (Reps.c2 (show Kd.FK k148 _ _ (⟨4,q02_Table.L4⟩:S148) [.int .i64 4,.slice Ao12 q02_Table.L4.length co12] from (k148_mkF _ _ (⟨4,q02_Table.L4⟩:S148) (Kd.R_reads' X4.out).2.1 (Kd.R_F X4.out))) (Reps.c2 (show Kd.FK k148 _ _ (⟨5,q02_Table.L5⟩:S148) [.int .i64 5,.slice Ao15 q02_Table.L5.length co15] from (k148_mkF _ _ (⟨5,q02_Table.L5⟩:S148) (Kd.R_reads' X5.out).2.1 (Kd.R_F X5.out))) (Reps.c2 (show Kd.FK k148 _ _ (⟨6,q02_Table.L6⟩:S148) [.int .i64 6,.slice Ao18 q02_Table.L6.length co18] from (k148_mkF _ _ (⟨6,q02_Table.L6⟩:S148) (Kd.R_reads' X6.out).2.1 (Kd.R_F X6.out))) (Reps.c2 (show Kd.FK k148 _ _ (⟨7,q02_Table.L7⟩:S148) [.int .i64 7,.slice Ao21 q02_Table.L7.length co21] from (k148_mkF _ _ (⟨7,q02_Table.L7⟩:S148) (Kd.R_reads' X7.out).2.1 (Kd.R_F X7.out))) (Reps.c2 (show Kd.FK k148 _ _ (⟨8,q02_Table.L8⟩:S148) [.int .i64 8,.slice Ao24 q02_Table.L8.length co24] from (k148_mkF _ _ (⟨8,q02_Table.L8⟩:S148) (Kd.R_reads' X8.out).2.1 (Kd.R_F X8.out))) (Reps.c2 (show Kd.FK k148 _ _ (⟨9,q02_Table.L9⟩:S148) [.int .i64 9,.slice Ao27 q02_Table.L9.length co27] from (k148_mkF _ _ (⟨9,q02_Table.L9⟩:S148) (Kd.R_reads' X9.out).2.1 (Kd.R_F X9.out))) (Reps.c2 (show Kd.FK k148 _ _ (⟨10,q02_Table.L10⟩:S148) [.int .i64 10,.slice Ao30 q02_Table.L10.length co30] from (k148_mkF _ _ (⟨10,q02_Table.L10⟩:S148) (Kd.R_reads' X10.out).2.1 (Kd.R_F X10.out))) (Reps.c2 (show Kd.FK k148 _ _ (⟨11,q02_Table.L11⟩:S148) [.int .i64 11,.slice Ao33 q02_Table.L11.length co33] from (k148_mkF _ _ (⟨11,q02_Table.L11⟩:S148) (Kd.R_reads' X11.out).2.1 (Kd.R_F X11.out))) (Reps.c2 (show Kd.FK k148 _ _ (⟨12,q02_Table.L12⟩:S148) [.int .i64 12,.slice Ao36 q02_Table.L12.length co36] from (k148_mkF _ _ (⟨12,q02_Table.L12⟩:S148) (Kd.R_reads' X12.out).2.1 (Kd.R_F X12.out))) (Reps.c2 (show Kd.FK k148 _ _ (⟨13,q02_Table.L13⟩:S148) [.int .i64 13,.slice Ao39 q02_Table.L13.length co39] from (k148_mkF _ _ (⟨13,q02_Table.L13⟩:S148) (Kd.R_reads' X13.out).2.1 (Kd.R_F X13.out))) (Reps.c2 (show Kd.FK k148 _ _ (⟨14,q02_Table.L14⟩:S148) [.int .i64 14,.slice Ao42 q02_Table.L14.length co42] from (k148_mkF _ _ (⟨14,q02_Table.L14⟩:S148) (Kd.R_reads' X14.out).2.1 (Kd.R_F X14.out))) (Reps.c2 (show Kd.FK k148 _ _ (⟨16,q02_Table.L15⟩:S148) [.int .i64 16,.slice Ao45 q02_Table.L15.length co45] from (k148_mkF _ _ (⟨16,q02_Table.L15⟩:S148) (Kd.R_reads' X15.out).2.1 (Kd.R_F X15.out))) (Reps.c2 (show Kd.FK k148 _ _ (⟨18,q02_Table.L16⟩:S148) [.int .i64 18,.slice Ao48 q02_Table.L16.length co48] from (k148_mkF _ _ (⟨18,q02_Table.L16⟩:S148) (Kd.R_reads' X16.out).2.1 (Kd.R_F X16.out))) (Reps.c2 (show Kd.FK k148 _ _ (⟨15,q02_Table.L17⟩:S148) [.int .i64 15,.slice Ao51 q02_Table.L17.length co51] from (k148_mkF _ _ (⟨15,q02_Table.L17⟩:S148) (Kd.R_reads' X17.out).2.1 (Kd.R_F X17.out))) (Reps.c2 (show Kd.FK k148 _ _ (⟨17,q02_Table.L18⟩:S148) [.int .i64 17,.slice Ao54 q02_Table.L18.length co54] from (k148_mkF _ _ (⟨17,q02_Table.L18⟩:S148) (Kd.R_reads' X18.out).2.1 (Kd.R_F X18.out))) (Reps.c2 (show Kd.FK k148 _ _ (⟨19,q02_Table.L19⟩:S148) [.int .i64 19,.slice Ao57 q02_Table.L19.length co57] from (k148_mkF _ _ (⟨19,q02_Table.L19⟩:S148) (Kd.R_reads' X19.out).2.1 (Kd.R_F X19.out))) (Reps.c2 (show Kd.FK k148 _ _ (⟨20,q02_Table.L20⟩:S148) [.int .i64 20,.slice Ao60 q02_Table.L20.length co60] from (k148_mkF _ _ (⟨20,q02_Table.L20⟩:S148) (Kd.R_reads' X20.out).2.1 (Kd.R_F X20.out))) (Reps.c2 (show Kd.FK k148 _ _ (⟨21,q02_Table.L21⟩:S148) [.int .i64 21,.slice Ao63 q02_Table.L21.length co63] from (k148_mkF _ _ (⟨21,q02_Table.L21⟩:S148) (Kd.R_reads' X21.out).2.1 (Kd.R_F X21.out))) (Reps.c2 (show Kd.FK k148 _ _ (⟨22,q02_Table.L22⟩:S148) [.int .i64 22,.slice Ao66 q02_Table.L22.length co66] from (k148_mkF _ _ (⟨22,q02_Table.L22⟩:S148) (Kd.R_reads' X22.out).2.1 (Kd.R_F X22.out))) (Reps.none _ _))))))))))))))))))))))));intro v267 w67 ho68 hb hg_ hnew_;clear hg_ hnew_;(first|rw [← Ny266.out] at ho68|(simp only [Int.reduceToNat] at ho68;rw [← Ny266.out] at ho68));have HO268:=Am (Kd.N_lower ho68 (below_size HB.out));replace HB:=Am (below_step HB.out hb);clear hb ho68))
 go_ret
 exact ⟨_,TE,by (with_reducible repeat (first|apply Kd.N_alloc|apply Kd.N_drewN|apply Kd.N_drew));exact HO268.out,TB⟩
mutual
def q02_Of.l0:Nat→Int→List (S148)→Int→Option (Int)
 | 0,_,_,_=>none
 | k+1,x0,x3,x4=>if x4 < (x3.length:Int) then (if 0≤x4 then (q02_Of.l1 k x0 x3 x4 ((rd_T148 x3 x4).f1) 0) else (none)) else (some 0)
def q02_Of.l1:Nat→Int→List (S148)→Int→List Int→Int→Option (Int)
 | 0,_,_,_,_,_=>none
 | k+1,x0,x3,x4,x5,x6=>if (wrap64 (x6+1)) < (x5.length:Int) then (if 0≤x6 then (if x6 < (x5.length:Int) then (if (rd x5 x6)≤x0 then (if 0≤(wrap64 (x6+1)) then (if x0≤(rd x5 (wrap64 (x6+1))) then (if 0≤x4 then (if x4 < (x3.length:Int) then (some ((rd_T148 x3 x4).f0)) else (none)) else (none)) else (q02_Of.l1 k x0 x3 x4 x5 (wrap64 (x6+2)))) else (none)) else (q02_Of.l1 k x0 x3 x4 x5 (wrap64 (x6+2)))) else (none)) else (none)) else (q02_Of.l0 k x0 x3 (wrap64 (x4+1)))
end
def q02_Of.f (k:Nat) (a0:Int):Option (Int):=(q02_Table.f).bind fun t397=>(q02_Of.l0 k a0 t397 0)
theorem q02_Of.mono_l: ∀ k,(∀ y0 y1 y2,LeO (q02_Of.l0 k y0 y1 y2) (q02_Of.l0 (k+1) y0 y1 y2))∧(∀ y0 y1 y2 y3 y4,LeO (q02_Of.l1 k y0 y1 y2 y3 y4) (q02_Of.l1 (k+1) y0 y1 y2 y3 y4))
 | 0=>⟨fun _ _ _ r h=>by simp [q02_Of.l0] at h,fun _ _ _ _ _ r h=>by simp [q02_Of.l1] at h⟩
 | k+1=>by
  obtain ⟨ih0,ih1⟩:=q02_Of.mono_l k
  refine ⟨?_,?_⟩
  ·
   intros
   unfold q02_Of.l0
   exact TL
  ·
   intros
   unfold q02_Of.l1
   exact TL
theorem q02_Of.mono: ∀ a0 k,LeO (q02_Of.f k a0) (q02_Of.f (k+1) a0):=by
 intro a0 k
 obtain ⟨ih0,ih1⟩:=q02_Of.mono_l k
 unfold q02_Of.f
 repeat' first
   | (with_reducible exact ih0 _ _ _)
   | (with_reducible exact ih1 _ _ _ _ _)
   | (with_reducible exact LeO.refl _)
   | (with_reducible exact LeO.none _)
   | (with_reducible refine LeO.ite ?_ ?_)
   | (with_reducible refine LeO.bind ?_ (fun _=>?_))
set_option maxHeartbeats 8000000 in
theorem q02_Of.calls (k:Nat) (a0:Int) (r:Int) (w:World) (h:q02_Of.f k a0=some r) :
  Calls Try.prog 95 #[.int .i64 a0] w fun e w'=>e= .returned (.int .i64 r)∧Below w.heap.size w w':=by
 have HB:=Am (Below.refl w.heap.size w)
 have H:((q02_Table.f).bind fun t397=>(q02_Of.l0 k a0 t397 0))=some r:=h
 clear h
 obtain ⟨t397,A20,H⟩:=Option.bind_eq_some_iff.mp H
 try dsimp only at H
 have A2:=Am A20
 clear A20
 have H':=Am H
 clear H
 go_enter Try.func95,Try.ntmps95
 go_wp2_with (first|((with_reducible refine gate_callee (f:=106) rfl ?_);refine goesL_ (some 7) rfl rfl Try.func106 TK rfl #[] rfl TM ?_;(with_reducible refine (q02_Table.calls t397 _ A2.out).mono ?_);rintro e w3 ⟨v398,rfl,ho0,hb⟩;refine ⟨_,rfl,?_⟩;have HO399:=Am (Kd.N_lower (Kd.N_mono (ok':=fun k_=>True) ho0 (fun k_ hk_=>trivial)) (below_size TB));replace HB:=Am (below_step TB hb);(try clear hb);(try clear hb2);(try clear hk);(try clear hi);(try clear ho0)))
 go_loopg [4] k (fun kq v4 w'=> ∃ (x4_1:Int),v4= .int .i64 x4_1∧Aside0 (q02_Of.l0 kq a0 t397 x4_1=some r)∧Aside0 (kq≤k)∧Aside0 (Kd.N k148 148 w' w.heap.size (fun _=>True) v398 t397)∧Aside0 (Below w.heap.size w w'))
 case atStart=>exact ⟨(0),TS,H',⟨Nat.le_refl _⟩,⟨by (with_reducible repeat (first|apply Kd.N_alloc|apply Kd.N_drewN|apply Kd.N_drew));exact HO399.out⟩,⟨TB⟩⟩
 case round =>
  clear H'
  obtain ⟨x4_1,rfl,HA,HK1,HO_3,HB⟩:=hrel
  cases gk with
  | zero=>exact absurd HA.out (by simp [q02_Of.l0])
  | succ k1 =>
   have H:=HA.out
   clear HA
   simp only [q02_Of.l0] at H
   by_cases c4:x4_1 < (t397.length:Int)
   rotate_left
   ·
    rw [if_neg c4] at H
    have c4b0:decide (x4_1 < (t397.length:Int))=false:=decide_eq_false c4
    clear c4
    obtain rfl:=Option.some.inj H
    obtain ⟨Ao16,co16,eo16⟩:=Kd.N_slice HO_3.out
    subst eo16
    go_wp2
    go_ret
    exact ⟨TE,TB⟩
   rw [if_pos c4] at H
   have c4b0:decide (x4_1 < (t397.length:Int))=true:=decide_eq_true c4
   clear c4
   obtain ⟨c5,H⟩:=ifS H
   have c5b0:decide (0≤x4_1)=true:=decide_eq_true c5
   clear c5
   have H':=Am H
   clear H
   obtain ⟨Ao6,co6,eo6⟩:=Kd.N_slice HO_3.out
   subst eo6
   have p400:0≤(x4_1:Int):=tD
   have q400:x4_1 < (t397.length:Int):=tD
   obtain ⟨ad400,A400_1,c400_1,e400,hx400_0,hx400_1,hl400_1,hi400_1⟩:=at_T148 (Kd.N_reads' HO_3.out).2.2 x4_1 p400 q400
   cases e400
   obtain ⟨ce400,hce400,hMe400,hcc400⟩:=Kd.N_get HO_3.out z148 x4_1 p400 (by first|exact q400|exact tD|(have e_:=(Kd.N_reads' HO_3.out).1;omega))
   obtain ⟨ua400_1,uc400_1,rfl,ul400_1,ge400_1⟩:=k148_openF hMe400
   have hv400_1:=hcc400 1 _ rfl
   rw [add_field _ _ 1 (by omega)] at hv400_1
   replace hv400_1:=Option.some.inj (hv400_1.symm.trans hx400_1)
   injection hv400_1 with hva_ hvn_ hvc_
   rw [hva_] at ge400_1
   rw [hvc_] at ul400_1
   have HL400_1:=Am (show Kd.V (Kd.int .i64) 3 _ w.heap.size _ _ ((rd_T148 t397 x4_1).f1) from Kd.V_mk ul400_1 ge400_1)
   clear hva_ hvn_ hvc_ ge400_1 ul400_1
   clear hcc400 hce400
   have HR400_1:=Am hi400_1
   have HC400_1:=Am hl400_1
   clear hi400_1 hl400_1
   replace p400:=eq_true p400
   replace q400:=eq_true q400
   go_wp2
   go_loopg [6] k1 (fun kq v6 w'=> ∃ (x6_2:Int),v6= .int .i64 x6_2∧Aside0 (q02_Of.l1 kq a0 t397 x4_1 ((rd_T148 t397 x4_1).f1) x6_2=some r)∧Aside0 (kq≤k1)∧Aside0 (Kd.N k148 148 w' w.heap.size (fun _=>True) (.slice (some ad400) t397.length co6) t397)∧Aside0 (Kd.C (Kd.int .i64) w' A400_1 ((rd_T148 t397 x4_1).f1).length ((rd_T148 t397 x4_1).f1))∧Aside0 (Below w.heap.size w w'))
   case atStart=>exact ⟨(0),TS,H',⟨Nat.le_refl _⟩,⟨by (with_reducible repeat (first|apply Kd.N_alloc|apply Kd.N_drewN|apply Kd.N_drew));exact HO_3.out⟩,⟨by repeat (first|(with_reducible exact HR400_1.out)|(with_reducible refine Kd.C_alloc ?_ _)|(with_reducible refine Kd.C_drewN ?_ _)|(with_reducible refine Kd.C_drew ?_)|exact HR400_1.out)⟩,⟨TB⟩⟩
   case round =>
    clear H'
    obtain ⟨x6_2,rfl,HA,HK2,HO_3,HR400_1,HB⟩:=hrel
    cases gk with
    | zero=>exact absurd HA.out (by simp [q02_Of.l1])
    | succ k2 =>
     have H:=HA.out
     clear HA
     simp only [q02_Of.l1] at H
     by_cases c7:(wrap64 (x6_2+1)) < (((rd_T148 t397 x4_1).f1).length:Int)
     rotate_left
     ·
      rw [if_neg c7] at H
      have c7b0:decide ((wrap64 (x6_2+1)) < (((rd_T148 t397 x4_1).f1).length:Int))=false:=decide_eq_false c7
      clear c7
      have H':=Am H
      clear H
      go_wp2
      go_roundg k2
      case measure=>have:=HK1.out;have:=HK2.out;omega
      case rel=>exact ⟨(wrap64 (x4_1+1)),TS,H',⟨by have:=HK1.out;have:=HK2.out;omega⟩,⟨by (with_reducible repeat (first|apply Kd.N_alloc|apply Kd.N_drewN|apply Kd.N_drew));exact HO_3.out⟩,⟨TB⟩⟩
     rw [if_pos c7] at H
     have c7b0:decide ((wrap64 (x6_2+1)) < (((rd_T148 t397 x4_1).f1).length:Int))=true:=decide_eq_true c7
     clear c7
     obtain ⟨c8,H⟩:=ifS H
     have c8b0:decide (0≤x6_2)=true:=decide_eq_true c8
     clear c8
     obtain ⟨c9,H⟩:=ifS H
     have c9b0:decide (x6_2 < (((rd_T148 t397 x4_1).f1).length:Int))=true:=decide_eq_true c9
     clear c9
     by_cases c10:(rd ((rd_T148 t397 x4_1).f1) x6_2)≤a0
     rotate_left
     ·
      rw [if_neg c10] at H
      have c10b0:decide ((rd ((rd_T148 t397 x4_1).f1) x6_2)≤a0)=false:=decide_eq_false c10
      clear c10
      have H':=Am H
      clear H
      have p401:0≤(x6_2:Int):=tD
      have q401:x6_2 < (((rd_T148 t397 x4_1).f1).length:Int):=tD
      obtain ⟨ad401,e401,hx401_0⟩:=Kd.at_int HR400_1.out x6_2 p401 q401
      cases e401
      try replace hx401_0:=cellU HB.out hx401_0
      replace p401:=eq_true p401
      replace q401:=eq_true q401
      go_wp2
      go_roundg k2
      case measure=>have:=HK1.out;have:=HK2.out;omega
      case rel=>exact ⟨(wrap64 (x6_2+2)),TS,H',⟨by have:=HK1.out;have:=HK2.out;omega⟩,⟨by (with_reducible repeat (first|apply Kd.N_alloc|apply Kd.N_drewN|apply Kd.N_drew));exact HO_3.out⟩,⟨by repeat (first|(with_reducible exact HR400_1.out)|(with_reducible refine Kd.C_alloc ?_ _)|(with_reducible refine Kd.C_drewN ?_ _)|(with_reducible refine Kd.C_drew ?_)|exact HR400_1.out)⟩,⟨TB⟩⟩
     rw [if_pos c10] at H
     have c10b0:decide ((rd ((rd_T148 t397 x4_1).f1) x6_2)≤a0)=true:=decide_eq_true c10
     clear c10
     obtain ⟨ji11,hji11⟩: ∃ j_:Int,(wrap64 (x6_2+1))=j_:=⟨_,rfl⟩
     replace H:(if 0≤(ji11) then (if a0≤(rd ((rd_T148 t397 x4_1).f1) (ji11)) then (if 0≤x4_1 then (if x4_1 < (t397.length:Int) then (some ((rd_T148 t397 x4_1).f0)) else (none)) else (none)) else (q02_Of.l1 k2 a0 t397 x4_1 ((rd_T148 t397 x4_1).f1) (wrap64 (x6_2+2)))) else (none))=some r:=by first|(rw [hji11] at H;exact H)|(simp only [hji11] at H ⊢;exact H)
     (try rw [hji11] at c7b0)
     have hji11w:(IntKind.i64.wrap (x6_2+1))=ji11:=(i64_w _).trans hji11
     obtain ⟨c12,H⟩:=ifS H
     have c12b0:decide (0≤(ji11))=true:=decide_eq_true c12
     clear c12
     by_cases c13:a0≤(rd ((rd_T148 t397 x4_1).f1) (ji11))
     rotate_left
     ·
      rw [if_neg c13] at H
      have c13b0:decide (a0≤(rd ((rd_T148 t397 x4_1).f1) (ji11)))=false:=decide_eq_false c13
      clear c13
      have H':=Am H
      clear H
      have p401:0≤(x6_2:Int):=tD
      have q401:x6_2 < (((rd_T148 t397 x4_1).f1).length:Int):=tD
      obtain ⟨ad401,e401,hx401_0⟩:=Kd.at_int HR400_1.out x6_2 p401 q401
      cases e401
      try replace hx401_0:=cellU HB.out hx401_0
      replace p401:=eq_true p401
      replace q401:=eq_true q401
      have p402:0≤((ji11):Int):=tD
      have q402:(ji11) < (((rd_T148 t397 x4_1).f1).length:Int):=tD
      obtain ⟨ad402,e402,hx402_0⟩:=Kd.at_int HR400_1.out (ji11) p402 q402
      obtain rfl:ad401=ad402:=(by injection e402)
      try replace hx402_0:=cellU HB.out hx402_0
      replace p402:=eq_true p402
      replace q402:=eq_true q402
      go_wp2
      go_roundg k2
      case measure=>have:=HK1.out;have:=HK2.out;omega
      case rel=>exact ⟨(wrap64 (x6_2+2)),TS,H',⟨by have:=HK1.out;have:=HK2.out;omega⟩,⟨by (with_reducible repeat (first|apply Kd.N_alloc|apply Kd.N_drewN|apply Kd.N_drew));exact HO_3.out⟩,⟨by repeat (first|(with_reducible exact HR400_1.out)|(with_reducible refine Kd.C_alloc ?_ _)|(with_reducible refine Kd.C_drewN ?_ _)|(with_reducible refine Kd.C_drew ?_)|exact HR400_1.out)⟩,⟨TB⟩⟩
     rw [if_pos c13] at H
     have c13b0:decide (a0≤(rd ((rd_T148 t397 x4_1).f1) (ji11)))=true:=decide_eq_true c13
     clear c13
     obtain ⟨c14,H⟩:=ifS H
     have c14b0:decide (0≤x4_1)=true:=decide_eq_true c14
     clear c14
     obtain ⟨c15,H⟩:=ifS H
     have c15b0:decide (x4_1 < (t397.length:Int))=true:=decide_eq_true c15
     clear c15
     obtain rfl:=Option.some.inj H
     have p401:0≤(x6_2:Int):=tD
     have q401:x6_2 < (((rd_T148 t397 x4_1).f1).length:Int):=tD
     obtain ⟨ad401,e401,hx401_0⟩:=Kd.at_int HR400_1.out x6_2 p401 q401
     cases e401
     try replace hx401_0:=cellU HB.out hx401_0
     replace p401:=eq_true p401
     replace q401:=eq_true q401
     have p402:0≤((ji11):Int):=tD
     have q402:(ji11) < (((rd_T148 t397 x4_1).f1).length:Int):=tD
     obtain ⟨ad402,e402,hx402_0⟩:=Kd.at_int HR400_1.out (ji11) p402 q402
     obtain rfl:ad401=ad402:=(by injection e402)
     try replace hx402_0:=cellU HB.out hx402_0
     replace p402:=eq_true p402
     replace q402:=eq_true q402
     have p403:0≤(x4_1:Int):=tD
     have q403:x4_1 < (t397.length:Int):=tD
     obtain ⟨ad403,A403_1,c403_1,e403,hx403_0,hx403_1,hl403_1,hi403_1⟩:=at_T148 (Kd.N_reads' HO_3.out).2.2 x4_1 p403 q403
     obtain rfl:ad400=ad403:=(by injection e403)
     obtain ⟨ce403,hce403,hMe403,hcc403⟩:=Kd.N_get HO_3.out z148 x4_1 p403 (by first|exact q403|exact tD|(have e_:=(Kd.N_reads' HO_3.out).1;omega))
     obtain ⟨ua403_1,uc403_1,rfl,ul403_1,ge403_1⟩:=k148_openF hMe403
     have hv403_1:=hcc403 1 _ rfl
     rw [add_field _ _ 1 (by omega)] at hv403_1
     replace hv403_1:=Option.some.inj (hv403_1.symm.trans hx403_1)
     injection hv403_1 with hva_ hvn_ hvc_
     rw [hva_] at ge403_1
     rw [hvc_] at ul403_1
     have HL403_1:=Am (show Kd.V (Kd.int .i64) 3 _ w.heap.size _ _ ((rd_T148 t397 x4_1).f1) from Kd.V_mk ul403_1 ge403_1)
     clear hva_ hvn_ hvc_ ge403_1 ul403_1
     clear hcc403 hce403
     have HR403_1:=Am hi403_1
     have HC403_1:=Am hl403_1
     clear hi403_1 hl403_1
     replace p403:=eq_true p403
     replace q403:=eq_true q403
     go_wp2
     go_ret
     exact ⟨by first|rfl|(simp [errW_none,errW_some] <;> rfl)|(simp only [← hji11];first|rfl|(simp [errW_none,errW_some] <;> rfl))|(simp [*,errW_none,errW_some] <;> rfl),TB⟩
def q02_All.l0:Nat→List (S36)→List Int→Int→Option (List Int)
 | 0,_,_,_=>none
 | k+1,x0,x3,x4=>if x4 < (x0.length:Int) then (if 0≤x4 then ((q02_Of.f k ((rd_T36 x0 x4).f2)).bind fun t405=>(if x3.length < 17592186044416 then (q02_All.l0 k x0 (x3++[t405]) (wrap64 (x4+1))) else (none))) else (none)) else (some x3)
def q02_All.f (k:Nat) (l0:List (S36)):Option (List Int):=q02_All.l0 k l0 ([]:List Int) 0
theorem q02_All.mono_l: ∀ k,(∀ y0 y1 y2,LeO (q02_All.l0 k y0 y1 y2) (q02_All.l0 (k+1) y0 y1 y2))
 | 0=>fun _ _ _ r h=>by simp [q02_All.l0] at h
 | k+1=>by
  have ih0:=q02_All.mono_l k
  ·
   intros
   unfold q02_All.l0
   have j0:=@q02_Of.mono
   exact TL
theorem q02_All.mono: ∀ a0 k,LeO (q02_All.f k a0) (q02_All.f (k+1) a0):=by
 intro a0 k
 have ih0:=q02_All.mono_l k
 unfold q02_All.f
 repeat' first
   | (with_reducible exact ih0 _ _ _)
   | (with_reducible exact q02_Of.mono _ _)
   | (with_reducible exact LeO.refl _)
   | (with_reducible exact LeO.none _)
   | (with_reducible refine LeO.ite ?_ ?_)
   | (with_reducible refine LeO.bind ?_ (fun _=>?_))
set_option maxHeartbeats 8000000 in
theorem q02_All.calls (k:Nat) (A0:Option Addr) (c0:Nat) (l0:List (S36)) (r:List Int) (w:World) (hr0:Kd.C k36 w A0 l0.length l0) (hc0:l0.length≤c0) (h:q02_All.f k l0=some r) :
  Calls Try.prog 63 #[.slice A0 l0.length c0] w fun e w'=> ∃ v0_:Value,e= .returned (v0_)∧Kd.R (Kd.int .i64) 3 w' w.heap.size (fun _=>True) v0_ r∧Below w.heap.size w w':=by
 have HR0:=Am hr0
 have HC0:=Am hc0
 clear hr0 hc0
 have HB:=Am (Below.refl w.heap.size w)
 have H:(q02_All.l0 k l0 ([]:List Int) 0)=some r:=h
 clear h
 have H':=Am H
 clear H
 go_enter Try.func63,Try.ntmps63
 try dsimp only [List.append]
 go_wp2
 go_loopg [3,4] k (fun kq v3 v4 w'=> ∃ (x3_1:List Int) (x4_1:Int),v4= .int .i64 x4_1∧Aside0 (q02_All.l0 kq l0 x3_1 x4_1=some r)∧Aside0 (kq≤k)∧Aside0 (Kd.R (Kd.int .i64) 3 w' w.heap.size (fun _=>True) v3 x3_1)∧Aside0 (Below w.heap.size w w'))
 case atStart=>exact ⟨(([]:List Int)),(0),TS,H',⟨Nat.le_refl _⟩,⟨by first|exact Kd.R_nil _ _ _ _ _|exact Kd.N_nil _ _ _ _ _|exact Kd.V_nil _ _ _ _ _|exact Kd.Q_nil _ _ _ _ _|exact Kd.S_nil _ _ _ _ _⟩,⟨TB⟩⟩
 case round =>
  clear H'
  obtain ⟨x3_1,x4_1,rfl,HA,HK1,HO_3,HB⟩:=hrel
  cases gk with
  | zero=>exact absurd HA.out (by simp [q02_All.l0])
  | succ k1 =>
   have H:=HA.out
   clear HA
   simp only [q02_All.l0] at H
   by_cases c2:x4_1 < (l0.length:Int)
   rotate_left
   ·
    rw [if_neg c2] at H
    have c2b0:decide (x4_1 < (l0.length:Int))=false:=decide_eq_false c2
    clear c2
    obtain rfl:=Option.some.inj H
    go_wp2
    go_ret
    exact ⟨_,TE,RU HO_3.out,TB⟩
   rw [if_pos c2] at H
   have c2b0:decide (x4_1 < (l0.length:Int))=true:=decide_eq_true c2
   clear c2
   obtain ⟨c3,H⟩:=ifS H
   have c3b0:decide (0≤x4_1)=true:=decide_eq_true c3
   clear c3
   obtain ⟨t405,A40,H⟩:=Option.bind_eq_some_iff.mp H
   try dsimp only at H
   have A4:=Am A40
   clear A40
   obtain ⟨c5,H⟩:=ifS H
   have LMc5:=Am c5
   clear c5
   obtain ⟨y406,hy406⟩: ∃ y_:List Int,y_=(x3_1++[t405]):=⟨_,rfl⟩
   replace H:(q02_All.l0 k1 l0 y406 (wrap64 (x4_1+1)))=some r:=by first|(rw [hy406];with_reducible exact H)|(have H2_:=(Option.bind_some _ _).symm.trans H;rw [hy406];with_reducible exact H2_)|(have H2_:=(Option.bind_some _ _).symm.trans H;with_reducible exact H2_)|with_reducible exact H|(rw [hy406];exact H)|exact H
   have Ny406:=Am hy406
   clear hy406
   have H':=Am H
   clear H
   have p404:0≤(x4_1:Int):=tD
   have q404:x4_1 < (l0.length:Int):=tD
   obtain ⟨ad404,e404,hx404_0,hx404_1,hx404_2⟩:=at_T36 HR0.out x4_1 p404 q404
   cases e404
   replace hx404_0:=cellU HB.out hx404_0
   replace hx404_1:=cellU HB.out hx404_1
   replace hx404_2:=cellU HB.out hx404_2
   replace p404:=eq_true p404
   replace q404:=eq_true q404
   go_wp2_with (first|((with_reducible refine gate_callee (f:=95) rfl ?_);refine goesL_ (some 17) rfl rfl Try.func95 TK rfl #[.int .i64 ((rd_T36 l0 x4_1).f2)] rfl TM ?_;(with_reducible refine (q02_Of.calls k1 ((rd_T36 l0 x4_1).f2) t405 _ A4.out).mono ?_);rintro e w6 ⟨rfl,hb⟩;refine ⟨_,rfl,?_⟩;replace HO_3:=Am (Kd.R_below (RU HO_3.out) hb);replace HB:=Am (below_step TB hb);(try clear hb);(try clear hb2);(try clear hk);(try clear hi))|((with_reducible refine gate_builtin (b:= .append) (xs:= #[.tmp 11,.tmp 18]) rfl ?_);at_builtin;refine Kd.R_append (Kd.int .i64) (w0:=w) w.heap.size rfl (.tmp 11) (.tmp 18) 23 3 (.int .i64 0) 8 rfl Try.underlying23 info3 rfl (by decide) (by omega) u3 x3_1 t405 [.int .i64 t405] (fun _=>True) (fun _=>False) rfl rfl ?aP (fun _ hk=>hk.elim) ?aF ?aO ?aB ?aS ?aL ?_;(case aP=>exact rfl);(case aB=>exact TB);(case aF=>exact (fun _ _=>trivial));(case aO=>exact (RU HO_3.out));(case aS=>exact (below_size TB));(case aL=>have:=LMc5.out;omega);intro v407 w7 ho hb hg hat;rw [← Ny406.out] at ho;have HO408:=Am (ho);replace HB:=Am (hb);clear HO_3;clear ho hb hg hat))
   go_roundg k1
   case measure=>have:=HK1.out;omega
   case rel=>exact ⟨(y406),(wrap64 (x4_1+1)),TS,H',⟨by have:=HK1.out;omega⟩,⟨RU HO408.out⟩,⟨TB⟩⟩
def q11_Removed.f (a0:Int):Option (Bool):=if a0=16 then (some true) else (if a0=14 then (some true) else (if a0=17 then (some true) else (if a0=15 then (some true) else (if a0=18 then (some true) else (some (a0==9))))))
set_option maxHeartbeats 8000000 in
theorem q11_Removed.calls (a0:Int) (r:Bool) (w:World) (h:q11_Removed.f a0=some r) :
  Calls Try.prog 96 #[.int .i64 a0] w fun e w'=>e= .returned (.bool r)∧Drawn0 w w':=by
 have H:(if a0=16 then (some true) else (if a0=14 then (some true) else (if a0=17 then (some true) else (if a0=15 then (some true) else (if a0=18 then (some true) else (some (a0==9)))))))=some r:=h
 clear h
 by_cases c2:a0=16
 ·
  rw [if_pos c2] at H
  have c2b0:(a0==16)=true:=beq_iff_eq.mpr c2
  have c2b1:(a0 !=16)=false:=bne_eq_false_iff_eq.mpr c2
  clear c2
  obtain rfl:=Option.some.inj H
  go_enter Try.func96,Try.ntmps96
  go_wp2
  go_ret
  exact ⟨by first|rfl|(simp;done)|(simp [*];done),by repeat (first|exact Drawn0.refl _|apply Drawn0.step)⟩
 rw [if_neg c2] at H
 have c2b0:(a0==16)=false:=beq_eq_false_iff_ne.mpr c2
 have c2b1:(a0 !=16)=true:=bne_iff_ne.mpr c2
 by_cases c3:a0=14
 ·
  rw [if_pos c3] at H
  have c3b0:(a0==14)=true:=beq_iff_eq.mpr c3
  have c3b1:(a0 !=14)=false:=bne_eq_false_iff_eq.mpr c3
  clear c3
  obtain rfl:=Option.some.inj H
  go_enter Try.func96,Try.ntmps96
  go_wp2
  go_ret
  exact ⟨by first|rfl|(simp;done)|(simp [*];done),by repeat (first|exact Drawn0.refl _|apply Drawn0.step)⟩
 rw [if_neg c3] at H
 have c3b0:(a0==14)=false:=beq_eq_false_iff_ne.mpr c3
 have c3b1:(a0 !=14)=true:=bne_iff_ne.mpr c3
 by_cases c4:a0=17
 ·
  rw [if_pos c4] at H
  have c4b0:(a0==17)=true:=beq_iff_eq.mpr c4
  have c4b1:(a0 !=17)=false:=bne_eq_false_iff_eq.mpr c4
  clear c4
  obtain rfl:=Option.some.inj H
  go_enter Try.func96,Try.ntmps96
  go_wp2
  go_ret
  exact ⟨by first|rfl|(simp;done)|(simp [*];done),by repeat (first|exact Drawn0.refl _|apply Drawn0.step)⟩
 rw [if_neg c4] at H
 have c4b0:(a0==17)=false:=beq_eq_false_iff_ne.mpr c4
 have c4b1:(a0 !=17)=true:=bne_iff_ne.mpr c4
 by_cases c5:a0=15
 ·
  rw [if_pos c5] at H
  have c5b0:(a0==15)=true:=beq_iff_eq.mpr c5
  have c5b1:(a0 !=15)=false:=bne_eq_false_iff_eq.mpr c5
  clear c5
  obtain rfl:=Option.some.inj H
  go_enter Try.func96,Try.ntmps96
  go_wp2
  go_ret
  exact ⟨by first|rfl|(simp;done)|(simp [*];done),by repeat (first|exact Drawn0.refl _|apply Drawn0.step)⟩
 rw [if_neg c5] at H
 have c5b0:(a0==15)=false:=beq_eq_false_iff_ne.mpr c5
 have c5b1:(a0 !=15)=true:=bne_iff_ne.mpr c5
 by_cases c6:a0=18
 rotate_left
 ·
  rw [if_neg c6] at H
  have c6b0:(a0==18)=false:=beq_eq_false_iff_ne.mpr c6
  have c6b1:(a0 !=18)=true:=bne_iff_ne.mpr c6
  obtain rfl:=Option.some.inj H
  go_enter Try.func96,Try.ntmps96
  go_wp2
  go_ret
  exact ⟨by first|rfl|(simp;done)|(simp [*];done),by repeat (first|exact Drawn0.refl _|apply Drawn0.step)⟩
 rw [if_pos c6] at H
 have c6b0:(a0==18)=true:=beq_iff_eq.mpr c6
 have c6b1:(a0 !=18)=false:=bne_eq_false_iff_eq.mpr c6
 clear c6
 obtain rfl:=Option.some.inj H
 go_enter Try.func96,Try.ntmps96
 go_wp2
 go_ret
 exact ⟨by first|rfl|(simp;done)|(simp [*];done),by repeat (first|exact Drawn0.refl _|apply Drawn0.step)⟩
def q16_blank.f (a0:Int):Option (Bool):=if a0=12 then (some true) else (if a0=19 then (some true) else (if a0=20 then (some true) else (if a0=21 then (some true) else (if a0=22 then (some true) else ((q11_Removed.f a0).bind fun t409=>(some t409))))))
set_option maxHeartbeats 8000000 in
theorem q16_blank.calls (a0:Int) (r:Bool) (w:World) (h:q16_blank.f a0=some r) :
  Calls Try.prog 64 #[.int .i64 a0] w fun e w'=>e= .returned (.bool r)∧Drawn0 w w':=by
 have H:(if a0=12 then (some true) else (if a0=19 then (some true) else (if a0=20 then (some true) else (if a0=21 then (some true) else (if a0=22 then (some true) else ((q11_Removed.f a0).bind fun t409=>(some t409)))))))=some r:=h
 clear h
 by_cases c2:a0=12
 ·
  rw [if_pos c2] at H
  have c2b0:(a0==12)=true:=beq_iff_eq.mpr c2
  have c2b1:(a0 !=12)=false:=bne_eq_false_iff_eq.mpr c2
  clear c2
  obtain rfl:=Option.some.inj H
  go_enter Try.func64,Try.ntmps64
  go_wp2
  go_ret
  exact ⟨by first|rfl|(simp;done)|(simp [*];done),by repeat (first|exact Drawn0.refl _|apply Drawn0.step)⟩
 rw [if_neg c2] at H
 have c2b0:(a0==12)=false:=beq_eq_false_iff_ne.mpr c2
 have c2b1:(a0 !=12)=true:=bne_iff_ne.mpr c2
 by_cases c3:a0=19
 ·
  rw [if_pos c3] at H
  have c3b0:(a0==19)=true:=beq_iff_eq.mpr c3
  have c3b1:(a0 !=19)=false:=bne_eq_false_iff_eq.mpr c3
  clear c3
  obtain rfl:=Option.some.inj H
  go_enter Try.func64,Try.ntmps64
  go_wp2
  go_ret
  exact ⟨by first|rfl|(simp;done)|(simp [*];done),by repeat (first|exact Drawn0.refl _|apply Drawn0.step)⟩
 rw [if_neg c3] at H
 have c3b0:(a0==19)=false:=beq_eq_false_iff_ne.mpr c3
 have c3b1:(a0 !=19)=true:=bne_iff_ne.mpr c3
 by_cases c4:a0=20
 ·
  rw [if_pos c4] at H
  have c4b0:(a0==20)=true:=beq_iff_eq.mpr c4
  have c4b1:(a0 !=20)=false:=bne_eq_false_iff_eq.mpr c4
  clear c4
  obtain rfl:=Option.some.inj H
  go_enter Try.func64,Try.ntmps64
  go_wp2
  go_ret
  exact ⟨by first|rfl|(simp;done)|(simp [*];done),by repeat (first|exact Drawn0.refl _|apply Drawn0.step)⟩
 rw [if_neg c4] at H
 have c4b0:(a0==20)=false:=beq_eq_false_iff_ne.mpr c4
 have c4b1:(a0 !=20)=true:=bne_iff_ne.mpr c4
 by_cases c5:a0=21
 ·
  rw [if_pos c5] at H
  have c5b0:(a0==21)=true:=beq_iff_eq.mpr c5
  have c5b1:(a0 !=21)=false:=bne_eq_false_iff_eq.mpr c5
  clear c5
  obtain rfl:=Option.some.inj H
  go_enter Try.func64,Try.ntmps64
  go_wp2
  go_ret
  exact ⟨by first|rfl|(simp;done)|(simp [*];done),by repeat (first|exact Drawn0.refl _|apply Drawn0.step)⟩
 rw [if_neg c5] at H
 have c5b0:(a0==21)=false:=beq_eq_false_iff_ne.mpr c5
 have c5b1:(a0 !=21)=true:=bne_iff_ne.mpr c5
 by_cases c6:a0=22
 ·
  rw [if_pos c6] at H
  have c6b0:(a0==22)=true:=beq_iff_eq.mpr c6
  have c6b1:(a0 !=22)=false:=bne_eq_false_iff_eq.mpr c6
  clear c6
  obtain rfl:=Option.some.inj H
  go_enter Try.func64,Try.ntmps64
  go_wp2
  go_ret
  exact ⟨by first|rfl|(simp;done)|(simp [*];done),by repeat (first|exact Drawn0.refl _|apply Drawn0.step)⟩
 rw [if_neg c6] at H
 have c6b0:(a0==22)=false:=beq_eq_false_iff_ne.mpr c6
 have c6b1:(a0 !=22)=true:=bne_iff_ne.mpr c6
 obtain ⟨t409,A70,H⟩:=Option.bind_eq_some_iff.mp H
 try dsimp only at H
 have A7:=Am A70
 clear A70
 obtain rfl:=Option.some.inj H
 go_enter Try.func64,Try.ntmps64
 go_wp2_with (first|(go_at_call 96;(with_reducible refine (q11_Removed.calls a0 t409 _ A7.out).mono ?_);rintro e w' ⟨rfl,⟨nd,rfl⟩⟩))
 go_ret
 exact ⟨by first|rfl|(simp;done)|(simp [*];done),by repeat (first|exact Drawn0.refl _|apply Drawn0.step)⟩
end Go.Proofs.Yteoaegigjlhamaa.PC19
