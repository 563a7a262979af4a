/- For the laws of the group C19: the Lean functions that the Go functions compute, and proofs that they do. Written by wip/hprint.py of this repo over the kit's printer; nothing here is trusted: Lean checks it. -/
import Derived.Test.YteoaegigjlhamaaPC19x0
import Derived.Test.YteoaegigjlhamaaPC19x3
namespace Go.Proofs.Yteoaegigjlhamaa.PC19
open Go.RowKit Go.Proofs.YteoaegigjlhamaaW.PrintWords Go.Proofs.YteoaegigjlhamaaW.PrintLast Go.Proofs.YteoaegigjlhamaaW.PrintMore
attribute [local go_sem] max2_int min2_int max_two min_two max_three min_three max_four min_four
set_option linter.unusedVariables false
set_option linter.unusedSimpArgs false
/-! ### cmp_Less_int:function 99 -/
def cmp_Less_int.f (a0:Int) (a1:Int):Option (Bool):=(cmp_isNaN_int.f a0).bind fun t105=>(if t105=true then ((cmp_isNaN_int.f a1).bind fun t106=>(if t106=true then (some (decide (a0 < a1))) else (some true))) else (some (decide (a0 < a1))))
set_option maxHeartbeats 8000000 in
set_option maxRecDepth 100000 in
theorem cmp_Less_int.calls (a0:Int) (a1:Int) (r:Bool) (w:World) (h:cmp_Less_int.f a0 a1=some r) :
  Calls Try.prog 99 #[.int .i64 a0,.int .i64 a1] w fun e w'=>e= .returned (.bool r)∧Drawn0 w w':=by
 have H:((cmp_isNaN_int.f a0).bind fun t105=>(if t105=true then ((cmp_isNaN_int.f a1).bind fun t106=>(if t106=true then (some (decide (a0 < a1))) else (some true))) else (some (decide (a0 < a1)))))=some r:=h
 clear h
 replace H:=Option.bind_eq_some_iff.mp H
 obtain ⟨t105,A30,H⟩:=H
 replace H:(if t105=true then ((cmp_isNaN_int.f a1).bind fun t106=>(if t106=true then (some (decide (a0 < a1))) else (some true))) else (some (decide (a0 < a1))))=some r:=H
 have A3:=Aside0.mk A30
 clear A30
 by_cases c4:t105=true
 ·
  subst c4
  have H1:((cmp_isNaN_int.f a1).bind fun t106=>(if t106=true then (some (decide (a0 < a1))) else (some true)))=some r:=by rw [if_pos rfl] at H;exact H
  clear H
  have H:=H1
  clear H1
  replace H:=Option.bind_eq_some_iff.mp H
  obtain ⟨t106,A50,H⟩:=H
  replace H:(if t106=true then (some (decide (a0 < a1))) else (some true))=some r:=H
  have A5:=Aside0.mk A50
  clear A50
  by_cases c6:t106=true
  ·
   subst c6
   have H1:(some (decide (a0 < a1)))=some r:=by rw [if_pos rfl] at H;exact H
   clear H
   have H:=H1
   clear H1
   obtain rfl:=Option.some.inj H
   go_enter Try.func99,Try.ntmps99
   go_wp2_with (first|((with_reducible refine gate_callee (f:=107) rfl ?_);refine goesL_ (some 6) rfl rfl Try.func107 (by kernel_rfl) rfl #[.int .i64 a0] rfl (by (try simp only [List.map_toArray,List.map_cons,List.map_nil]);first|done|rfl|(simp only [List.length_drop,List.length_take];rfl)) ?_;(with_reducible refine (cmp_isNaN_int.calls a0 true _ A3.out).mono ?_);rintro e w' ⟨rfl,⟨nd,rfl⟩⟩;refine ⟨_,rfl,?_⟩)|(go_at_call 107;(with_reducible refine (cmp_isNaN_int.calls a1 true _ A5.out).mono ?_);rintro e w' ⟨rfl,⟨nd,rfl⟩⟩))
   go_ret
   exact ⟨by first|rfl|(simp;done)|(simp [*];done),by repeat (first|exact Drawn0.refl _|apply Drawn0.step)⟩
  ·
   replace c6:=Bool.eq_false_iff.mpr c6
   subst c6
   have H1:(some true)=some r:=by rw [if_neg (show ¬ (false=true) by decide)] at H;exact H
   clear H
   have H:=H1
   clear H1
   obtain rfl:=Option.some.inj H
   go_enter Try.func99,Try.ntmps99
   go_wp2_with (first|((with_reducible refine gate_callee (f:=107) rfl ?_);refine goesL_ (some 6) rfl rfl Try.func107 (by kernel_rfl) rfl #[.int .i64 a0] rfl (by (try simp only [List.map_toArray,List.map_cons,List.map_nil]);first|done|rfl|(simp only [List.length_drop,List.length_take];rfl)) ?_;(with_reducible refine (cmp_isNaN_int.calls a0 true _ A3.out).mono ?_);rintro e w' ⟨rfl,⟨nd,rfl⟩⟩;refine ⟨_,rfl,?_⟩)|(go_at_call 107;(with_reducible refine (cmp_isNaN_int.calls a1 false _ A5.out).mono ?_);rintro e w' ⟨rfl,⟨nd,rfl⟩⟩))
   go_ret
   exact ⟨by first|rfl|(simp;done)|(simp [*];done),by repeat (first|exact Drawn0.refl _|apply Drawn0.step)⟩
 ·
  replace c4:=Bool.eq_false_iff.mpr c4
  subst c4
  have H1:(some (decide (a0 < a1)))=some r:=by rw [if_neg (show ¬ (false=true) by decide)] at H;exact H
  clear H
  have H:=H1
  clear H1
  obtain rfl:=Option.some.inj H
  go_enter Try.func99,Try.ntmps99
  go_wp2_with (first|((with_reducible refine gate_callee (f:=107) rfl ?_);refine goesL_ (some 6) rfl rfl Try.func107 (by kernel_rfl) rfl #[.int .i64 a0] rfl (by (try simp only [List.map_toArray,List.map_cons,List.map_nil]);first|done|rfl|(simp only [List.length_drop,List.length_take];rfl)) ?_;(with_reducible refine (cmp_isNaN_int.calls a0 false _ A3.out).mono ?_);rintro e w' ⟨rfl,⟨nd,rfl⟩⟩;refine ⟨_,rfl,?_⟩))
  go_ret
  exact ⟨by first|rfl|(simp;done)|(simp [*];done),by repeat (first|exact Drawn0.refl _|apply Drawn0.step)⟩
/-! ### slices_isNaN_int:function 100 -/
def slices_isNaN_int.f (a0:Int):Option (Bool):=some (a0 !=a0)
set_option maxHeartbeats 8000000 in
set_option maxRecDepth 100000 in
theorem slices_isNaN_int.calls (a0:Int) (r:Bool) (w:World) (h:slices_isNaN_int.f a0=some r) :
  Calls Try.prog 100 #[.int .i64 a0] w fun e w'=>e= .returned (.bool r)∧Drawn0 w w':=by
 have H:(some (a0 !=a0))=some r:=h
 clear h
 obtain rfl:=Option.some.inj H
 go_enter Try.func100,Try.ntmps100
 go_wp2
 go_ret
 exact ⟨by first|rfl|(simp;done)|(simp [*];done),by repeat (first|exact Drawn0.refl _|apply Drawn0.step)⟩
/-! ### slices_BinarySearch_int_int:function 73 -/
def slices_BinarySearch_int_int.l0:Nat→List Int→Int→Int→Int→Int→Option (Int × Bool)
 | 0,_,_,_,_,_=>none
 | k+1,x0,x1,x6,x7,x8=>if x7 < x8 then (if 0≤(wrap64 ((IntKind.u64.wrap (wrap64 (x7+x8))) / 2)) then (if (wrap64 ((IntKind.u64.wrap (wrap64 (x7+x8))) / 2)) < (x0.length:Int) then ((cmp_Less_int.f (rd x0 (wrap64 ((IntKind.u64.wrap (wrap64 (x7+x8))) / 2))) x1).bind fun t108=>(if t108=true then (slices_BinarySearch_int_int.l0 k x0 x1 x6 (wrap64 ((wrap64 ((IntKind.u64.wrap (wrap64 (x7+x8))) / 2))+1)) x8) else (slices_BinarySearch_int_int.l0 k x0 x1 x6 x7 (wrap64 ((IntKind.u64.wrap (wrap64 (x7+x8))) / 2))))) else (none)) else (none)) else (if x7 < x6 then (if 0≤x7 then (if x7 < (x0.length:Int) then (if (rd x0 x7)=x1 then (some (x7,true)) else ((slices_isNaN_int.f (rd x0 x7)).bind fun t111=>(if t111=true then ((slices_isNaN_int.f x1).bind fun t112=>(some (x7,t112))) else (some (x7,false))))) else (none)) else (none)) else (some (x7,false)))
def slices_BinarySearch_int_int.f (k:Nat) (l0:List Int) (a1:Int):Option (Int × Bool):=slices_BinarySearch_int_int.l0 k l0 a1 (l0.length:Int) 0 (l0.length:Int)
theorem slices_BinarySearch_int_int.mono_l: ∀ k,(∀ y0 y1 y2 y3 y4,LeO (slices_BinarySearch_int_int.l0 k y0 y1 y2 y3 y4) (slices_BinarySearch_int_int.l0 (k+1) y0 y1 y2 y3 y4))
 | 0=>fun _ _ _ _ _ r h=>by simp [slices_BinarySearch_int_int.l0] at h
 | k+1=>by
  have ih0:=slices_BinarySearch_int_int.mono_l k
  ·
   intro y0 y1 y2 y3 y4
   unfold slices_BinarySearch_int_int.l0
   repeat' first
   | (with_reducible exact ih0 _ _ _ _ _)
   | (with_reducible exact LeO.refl _)
   | (with_reducible exact LeO.none _)
   | (with_reducible refine LeO.ite ?_ ?_)
   | (with_reducible refine LeO.bind ?_ (fun _=>?_))
   | exact ih0 _ _ _ _ _
   | exact LeO.none _
   | refine LeO.ite ?_ ?_
   | refine LeO.bind ?_ (fun _=>?_)
theorem slices_BinarySearch_int_int.mono: ∀ a0 a1 k,LeO (slices_BinarySearch_int_int.f k a0 a1) (slices_BinarySearch_int_int.f (k+1) a0 a1):=by
 intro a0 a1 k
 have ih0:=slices_BinarySearch_int_int.mono_l k
 unfold slices_BinarySearch_int_int.f
 repeat' first
   | (with_reducible exact ih0 _ _ _ _ _)
   | (with_reducible exact LeO.refl _)
   | (with_reducible exact LeO.none _)
   | (with_reducible refine LeO.ite ?_ ?_)
   | (with_reducible refine LeO.bind ?_ (fun _=>?_))
   | exact ih0 _ _ _ _ _
   | exact LeO.none _
   | refine LeO.ite ?_ ?_
   | refine LeO.bind ?_ (fun _=>?_)
set_option maxHeartbeats 8000000 in
set_option maxRecDepth 100000 in
theorem slices_BinarySearch_int_int.calls (k:Nat) (A0:Option Addr) (c0:Nat) (l0:List Int) (a1:Int) (r1:Int) (r2:Bool) (w:World) (hr0:Kd.C (Kd.int .i64) w A0 l0.length l0) (hc0:l0.length≤c0) (h:slices_BinarySearch_int_int.f k l0 a1=some (r1,r2)) :
  Calls Try.prog 73 #[.slice A0 l0.length c0,.int .i64 a1] w fun e w'=>e= .returned (.tuple #[.int .i64 r1,.bool r2])∧Drawn0 w w':=by
 have HR0:=Aside0.mk hr0
 have HC0:=Aside0.mk hc0
 clear hr0 hc0
 have H:(slices_BinarySearch_int_int.l0 k l0 a1 (l0.length:Int) 0 (l0.length:Int))=some (r1,r2):=h
 clear h
 have H':=Aside0.mk H
 clear H
 go_enter Try.func73,Try.ntmps73
 go_wp2
 go_loopg [7,8] k (fun kq v7 v8 w'=> ∃ (x7_1:Int) (x8_1:Int),v7= .int .i64 x7_1∧v8= .int .i64 x8_1∧Aside0 (slices_BinarySearch_int_int.l0 kq l0 a1 (l0.length:Int) x7_1 x8_1=some (r1,r2))∧Aside0 (kq≤k)∧Drawn0 w w')
 case atStart=>exact ⟨(0),((l0.length:Int)),(by first|rfl|(simp;done)|(simp [*];done)),(by first|rfl|(simp;done)|(simp [*];done)),H',⟨Nat.le_refl _⟩,by repeat (first|exact Drawn0.refl _|apply Drawn0.step)⟩
 case round =>
  clear H'
  try clear p2
  obtain ⟨x7_1,x8_1,rfl,rfl,HA,HK1,⟨m1,rfl⟩⟩:=hrel
  cases gk with
  | zero=>exact absurd HA.out (by simp [slices_BinarySearch_int_int.l0])
  | succ k1 =>
   have H:=HA.out
   clear HA
   simp only [slices_BinarySearch_int_int.l0] at H
   by_cases c3:x7_1 < x8_1
   ·
    rw [if_pos c3] at H
    have c3b0:decide (x7_1 < x8_1)=true:=decide_eq_true c3
    clear c3
    obtain ⟨ji4,hji4⟩: ∃ j_:Int,(wrap64 ((IntKind.u64.wrap (wrap64 (x7_1+x8_1))) / 2))=j_:=⟨_,rfl⟩
    replace H:(if 0≤(ji4) then (if (ji4) < (l0.length:Int) then ((cmp_Less_int.f (rd l0 (ji4)) a1).bind fun t108=>(if t108=true then (slices_BinarySearch_int_int.l0 k1 l0 a1 (l0.length:Int) (wrap64 ((ji4)+1)) x8_1) else (slices_BinarySearch_int_int.l0 k1 l0 a1 (l0.length:Int) x7_1 ji4))) else (none)) else (none))=some (r1,r2):=by first|(rw [hji4] at H;exact H)|(simp only [hji4] at H ⊢;exact H)
    have hji4w:(IntKind.i64.wrap ((IntKind.u64.wrap (wrap64 (x7_1+x8_1))) / 2))=ji4:=(i64_w _).trans hji4
    by_cases c5:0≤(ji4)
    ·
     rw [if_pos c5] at H
     have c5b0:decide (0≤(ji4))=true:=decide_eq_true c5
     clear c5
     by_cases c6:(ji4) < (l0.length:Int)
     ·
      rw [if_pos c6] at H
      have c6b0:decide ((ji4) < (l0.length:Int))=true:=decide_eq_true c6
      clear c6
      replace H:=Option.bind_eq_some_iff.mp H
      obtain ⟨t108,A70,H⟩:=H
      replace H:(if t108=true then (slices_BinarySearch_int_int.l0 k1 l0 a1 (l0.length:Int) (wrap64 ((ji4)+1)) x8_1) else (slices_BinarySearch_int_int.l0 k1 l0 a1 (l0.length:Int) x7_1 ji4))=some (r1,r2):=H
      have A7:=Aside0.mk A70
      clear A70
      by_cases c8:t108=true
      ·
       subst c8
       have H1:(slices_BinarySearch_int_int.l0 k1 l0 a1 (l0.length:Int) (wrap64 ((ji4)+1)) x8_1)=some (r1,r2):=by rw [if_pos rfl] at H;exact H
       clear H
       have H:=H1
       clear H1
       have H':=Aside0.mk H
       clear H
       have p107:0≤((ji4):Int):=of_decide_eq_true (by first|(with_reducible assumption)|assumption)
       have q107:(ji4) < (l0.length:Int):=of_decide_eq_true (by first|(with_reducible assumption)|assumption)
       obtain ⟨ad107,e107,hx107_0⟩:=Kd.at_int HR0.out (ji4) p107 q107
       cases e107
       replace p107:=eq_true p107
       replace q107:=eq_true q107
       go_wp2_with (first|((with_reducible refine gate_callee (f:=99) rfl ?_);refine goesL_ (some 27) rfl rfl Try.func99 (by kernel_rfl) rfl #[.int .i64 (rd l0 (ji4)),.int .i64 a1] rfl (by (try simp only [List.map_toArray,List.map_cons,List.map_nil]);first|done|(simp only [hji4];rfl)|rfl|(simp only [List.length_drop,List.length_take];rfl)) ?_;(with_reducible refine (cmp_Less_int.calls (rd l0 (ji4)) a1 true _ A7.out).mono ?_);rintro e w' ⟨rfl,⟨nd,rfl⟩⟩;refine ⟨_,rfl,?_⟩))
       go_roundg k1
       case measure=>have:=HK1.out;omega
       case rel=>exact ⟨(wrap64 ((ji4)+1)),(x8_1),(by first|rfl|(simp;done)|(simp only [← hji4] <;> (first|rfl|simp))|(simp [*];done)),(by first|rfl|(simp;done)|(simp [*];done)),H',⟨by have:=HK1.out;omega⟩,by repeat (first|exact Drawn0.refl _|apply Drawn0.step)⟩
      ·
       replace c8:=Bool.eq_false_iff.mpr c8
       subst c8
       have H1:(slices_BinarySearch_int_int.l0 k1 l0 a1 (l0.length:Int) x7_1 ji4)=some (r1,r2):=by rw [if_neg (show ¬ (false=true) by decide)] at H;exact H
       clear H
       have H:=H1
       clear H1
       have H':=Aside0.mk H
       clear H
       have p107:0≤((ji4):Int):=of_decide_eq_true (by first|(with_reducible assumption)|assumption)
       have q107:(ji4) < (l0.length:Int):=of_decide_eq_true (by first|(with_reducible assumption)|assumption)
       obtain ⟨ad107,e107,hx107_0⟩:=Kd.at_int HR0.out (ji4) p107 q107
       cases e107
       replace p107:=eq_true p107
       replace q107:=eq_true q107
       go_wp2_with (first|((with_reducible refine gate_callee (f:=99) rfl ?_);refine goesL_ (some 27) rfl rfl Try.func99 (by kernel_rfl) rfl #[.int .i64 (rd l0 (ji4)),.int .i64 a1] rfl (by (try simp only [List.map_toArray,List.map_cons,List.map_nil]);first|done|(simp only [hji4];rfl)|rfl|(simp only [List.length_drop,List.length_take];rfl)) ?_;(with_reducible refine (cmp_Less_int.calls (rd l0 (ji4)) a1 false _ A7.out).mono ?_);rintro e w' ⟨rfl,⟨nd,rfl⟩⟩;refine ⟨_,rfl,?_⟩))
       go_roundg k1
       case measure=>have:=HK1.out;omega
       case rel=>exact ⟨(x7_1),(ji4),(by first|rfl|(simp;done)|(simp [*];done)),(by first|rfl|(simp;done)|(simp only [← hji4] <;> (first|rfl|simp))|(simp [*];done)),H',⟨by have:=HK1.out;omega⟩,by repeat (first|exact Drawn0.refl _|apply Drawn0.step)⟩
     ·
      rw [if_neg c6] at H
      exact absurd H (by simp)
    ·
     rw [if_neg c5] at H
     exact absurd H (by simp)
   ·
    rw [if_neg c3] at H
    have c3b0:decide (x7_1 < x8_1)=false:=decide_eq_false c3
    clear c3
    by_cases c9:x7_1 < (l0.length:Int)
    ·
     rw [if_pos c9] at H
     have c9b0:decide (x7_1 < (l0.length:Int))=true:=decide_eq_true c9
     clear c9
     by_cases c10:0≤x7_1
     ·
      rw [if_pos c10] at H
      have c10b0:decide (0≤x7_1)=true:=decide_eq_true c10
      clear c10
      by_cases c11:x7_1 < (l0.length:Int)
      ·
       rw [if_pos c11] at H
       have c11b0:decide (x7_1 < (l0.length:Int))=true:=decide_eq_true c11
       clear c11
       by_cases c12:(rd l0 x7_1)=a1
       ·
        rw [if_pos c12] at H
        have c12b0:((rd l0 x7_1)==a1)=true:=beq_iff_eq.mpr c12
        have c12b1:((rd l0 x7_1) !=a1)=false:=bne_eq_false_iff_eq.mpr c12
        clear c12
        simp only [Option.some.injEq,Prod.mk.injEq] at H
        obtain ⟨rfl,rfl⟩:=H
        have p109:0≤(x7_1:Int):=of_decide_eq_true (by first|(with_reducible assumption)|assumption)
        have q109:x7_1 < (l0.length:Int):=of_decide_eq_true (by first|(with_reducible assumption)|assumption)
        obtain ⟨ad109,e109,hx109_0⟩:=Kd.at_int HR0.out x7_1 p109 q109
        cases e109
        replace p109:=eq_true p109
        replace q109:=eq_true q109
        go_wp2
        go_ret2
        exact ⟨by first|rfl|(simp;done)|(simp [*];done),by repeat (first|exact Drawn0.refl _|apply Drawn0.step)⟩
       ·
        rw [if_neg c12] at H
        have c12b0:((rd l0 x7_1)==a1)=false:=beq_eq_false_iff_ne.mpr c12
        have c12b1:((rd l0 x7_1) !=a1)=true:=bne_iff_ne.mpr c12
        replace H:=Option.bind_eq_some_iff.mp H
        obtain ⟨t111,A130,H⟩:=H
        replace H:(if t111=true then ((slices_isNaN_int.f a1).bind fun t112=>(some (x7_1,t112))) else (some (x7_1,false)))=some (r1,r2):=H
        have A13:=Aside0.mk A130
        clear A130
        by_cases c14:t111=true
        ·
         subst c14
         have H1:((slices_isNaN_int.f a1).bind fun t112=>(some (x7_1,t112)))=some (r1,r2):=by rw [if_pos rfl] at H;exact H
         clear H
         have H:=H1
         clear H1
         replace H:=Option.bind_eq_some_iff.mp H
         obtain ⟨t112,A150,H⟩:=H
         replace H:(some (x7_1,t112))=some (r1,r2):=H
         have A15:=Aside0.mk A150
         clear A150
         simp only [Option.some.injEq,Prod.mk.injEq] at H
         obtain ⟨rfl,rfl⟩:=H
         have p109:0≤(x7_1:Int):=of_decide_eq_true (by first|(with_reducible assumption)|assumption)
         have q109:x7_1 < (l0.length:Int):=of_decide_eq_true (by first|(with_reducible assumption)|assumption)
         obtain ⟨ad109,e109,hx109_0⟩:=Kd.at_int HR0.out x7_1 p109 q109
         cases e109
         replace p109:=eq_true p109
         replace q109:=eq_true q109
         have p110:0≤(x7_1:Int):=of_decide_eq_true (by first|(with_reducible assumption)|assumption)
         have q110:x7_1 < (l0.length:Int):=of_decide_eq_true (by first|(with_reducible assumption)|assumption)
         obtain ⟨ad110,e110,hx110_0⟩:=Kd.at_int HR0.out x7_1 p110 q110
         obtain rfl:ad109=ad110:=(by injection e110)
         replace p110:=eq_true p110
         replace q110:=eq_true q110
         go_wp2_with (first|(go_at_call 100;(with_reducible refine (slices_isNaN_int.calls (rd l0 x7_1) true _ A13.out).mono ?_);rintro e w' ⟨rfl,⟨nd,rfl⟩⟩)|(go_at_call 100;(with_reducible refine (slices_isNaN_int.calls a1 t112 _ A15.out).mono ?_);rintro e w' ⟨rfl,⟨nd,rfl⟩⟩))
         go_ret2
         exact ⟨by first|rfl|(simp;done)|(simp [*];done),by repeat (first|exact Drawn0.refl _|apply Drawn0.step)⟩
        ·
         replace c14:=Bool.eq_false_iff.mpr c14
         subst c14
         have H1:(some (x7_1,false))=some (r1,r2):=by rw [if_neg (show ¬ (false=true) by decide)] at H;exact H
         clear H
         have H:=H1
         clear H1
         simp only [Option.some.injEq,Prod.mk.injEq] at H
         obtain ⟨rfl,rfl⟩:=H
         have p109:0≤(x7_1:Int):=of_decide_eq_true (by first|(with_reducible assumption)|assumption)
         have q109:x7_1 < (l0.length:Int):=of_decide_eq_true (by first|(with_reducible assumption)|assumption)
         obtain ⟨ad109,e109,hx109_0⟩:=Kd.at_int HR0.out x7_1 p109 q109
         cases e109
         replace p109:=eq_true p109
         replace q109:=eq_true q109
         have p110:0≤(x7_1:Int):=of_decide_eq_true (by first|(with_reducible assumption)|assumption)
         have q110:x7_1 < (l0.length:Int):=of_decide_eq_true (by first|(with_reducible assumption)|assumption)
         obtain ⟨ad110,e110,hx110_0⟩:=Kd.at_int HR0.out x7_1 p110 q110
         obtain rfl:ad109=ad110:=(by injection e110)
         replace p110:=eq_true p110
         replace q110:=eq_true q110
         go_wp2_with (first|(go_at_call 100;(with_reducible refine (slices_isNaN_int.calls (rd l0 x7_1) false _ A13.out).mono ?_);rintro e w' ⟨rfl,⟨nd,rfl⟩⟩))
         go_ret2
         exact ⟨by first|rfl|(simp;done)|(simp [*];done),by repeat (first|exact Drawn0.refl _|apply Drawn0.step)⟩
      ·
       rw [if_neg c11] at H
       exact absurd H (by simp)
     ·
      rw [if_neg c10] at H
      exact absurd H (by simp)
    ·
     rw [if_neg c9] at H
     have c9b0:decide (x7_1 < (l0.length:Int))=false:=decide_eq_false c9
     clear c9
     simp only [Option.some.injEq,Prod.mk.injEq] at H
     obtain ⟨rfl,rfl⟩:=H
     go_wp2
     go_ret2
     exact ⟨by first|rfl|(simp;done)|(simp [*];done),by repeat (first|exact Drawn0.refl _|apply Drawn0.step)⟩
/-! ### gcb_Pict:function 45:by hand -/
def gcb_Pict.L:List Int:=[169,170,174,175,8252,8253,8265,8266,8482,8483,8505,8506,8596,8602,8617,8619,8986,8988,9000,9001,9167,9168,9193,9204,9208,9211,9410,9411,9642,9644,9654,9655,9664,9665,9723,9727,9728,9734,9735,9747,9748,9862,9872,9990,9992,10003,10004,10005,10006,10007,10013,10014,10017,10018,10024,10025,10035,10037,10052,10053,10055,10056,10060,10061,10062,10063,10067,10070,10071,10072,10083,10088,10133,10136,10145,10146,10160,10161,10175,10176,10548,10550,11013,11016,11035,11037,11088,11089,11093,11094,12336,12337,12349,12350,12951,12952,12953,12954,126976,127232,127245,127248,127279,127280,127340,127346,127358,127360,127374,127375,127377,127387,127405,127462,127489,127504,127514,127515,127535,127536,127538,127547,127548,127552,127561,127995,128000,128318,128326,128592,128640,128768,128884,128896,128981,129024,129036,129040,129096,129104,129114,129120,129160,129168,129198,129280,129292,129339,129340,129350,129351,129792,130048,131070]
def gcb_Pict.oddIn (l:List Int) (c:Int):Bool:=l.countP (fun x=>decide (x≤c)) % 2==1
def gcb_Pict.f (a0:Int):Option Bool:=some (gcb_Pict.oddIn gcb_Pict.L a0)
section
open Go.Proofs.YteoaegigjlhamaaH
theorem gcb_Pict.mid (lo hi:Nat) (h:lo+hi < 2000000):wrap64 ((IntKind.u64.wrap (wrap64 ((lo:Int)+(hi:Int)))) / 2)=(((lo+hi) / 2:Nat):Int):=by
 have e1:wrap64 ((lo:Int)+(hi:Int))=((lo+hi:Nat):Int):=by unfold wrap64;omega
 rw [e1,show IntKind.u64.wrap ((lo+hi:Nat):Int)=((lo+hi:Nat):Int) from by rw [IntKind.wrap_u64];omega]
 unfold wrap64
 omega
theorem gcb_Pict.bs (l:List Int) (hl:l.length < 1000000) (hs: ∀ a b,a < b→b < l.length→nth l a < nth l b) (y:Int): ∀ (d lo hi k:Nat),hi - lo≤d→lo≤hi→hi≤l.length→(∀ t,t < lo→nth l t < y)→(∀ t,hi≤t→t < l.length→y≤nth l t)→d < k →
  ∃ (q:Nat) (b:Bool),slices_BinarySearch_int_int.l0 k l y (l.length:Int) (lo:Int) (hi:Int)=some ((q:Int),b)∧(if b=true then q+1 else q)=l.countP (fun x=>decide (x≤y))∧q≤l.length:=by
 intro d
 induction d with
 | zero =>
  intro lo hi k hd hlh hhl h1 h2 hk
  obtain ⟨k,rfl⟩: ∃ m,k=m+1:=⟨k - 1,by omega⟩
  obtain rfl:hi=lo:=by omega
  simp only [slices_BinarySearch_int_int.l0]
  rw [if_neg (by omega)]
  by_cases hn:hi < l.length
  ·
   have hrd:rd l (hi:Int)=nth l hi:=rfl
   rw [if_pos (by omega),if_pos (by omega),if_pos (by omega),hrd]
   by_cases he:nth l hi=y
   ·
    refine ⟨hi,true,by rw [if_pos he],?_,by omega⟩
    rw [if_pos rfl]
    refine (count_split l _ (hi+1) (by omega) (fun t ht=>decide_eq_true ?_) (fun t ht1 ht2=>decide_eq_false ?_)).symm
    ·
     by_cases e:t=hi
     ·
      subst e;omega
     ·
      have:=h1 t (by omega);omega
    ·
     have:=hs hi t (by omega) ht2
     omega
   ·
    refine ⟨hi,false,?_,?_,by omega⟩
    ·
     rw [if_neg he]
     simp [slices_isNaN_int.f]
    ·
     have h3:=h2 hi (Nat.le_refl _) hn
     rw [if_neg (by decide)]
     refine (count_split l _ hi (by omega) (fun t ht=>decide_eq_true ?_) (fun t ht1 ht2=>decide_eq_false ?_)).symm
     ·
      have:=h1 t ht;omega
     ·
      by_cases e:t=hi
      ·
       subst e;omega
      ·
       have:=hs hi t (by omega) ht2
       omega
  ·
   refine ⟨hi,false,by rw [if_neg (by omega)],?_,by omega⟩
   rw [if_neg (by decide)]
   refine (count_split l _ hi (by omega) (fun t ht=>decide_eq_true ?_) (fun t ht1 ht2=>by omega)).symm
   have:=h1 t ht;omega
 | succ d ih =>
  intro lo hi k hd hlh hhl h1 h2 hk
  by_cases hlt:lo < hi
  ·
   obtain ⟨k,rfl⟩: ∃ m,k=m+1:=⟨k - 1,by omega⟩
   simp only [slices_BinarySearch_int_int.l0]
   rw [if_pos (by omega),gcb_Pict.mid lo hi (by omega),if_pos (by omega),if_pos (by omega),show rd l (((lo+hi) / 2:Nat):Int)=nth l ((lo+hi) / 2) from rfl]
   have hc:cmp_Less_int.f (nth l ((lo+hi) / 2)) y=some (decide (nth l ((lo+hi) / 2) < y)):=by simp [cmp_Less_int.f,cmp_isNaN_int.f]
   rw [hc]
   simp only [Option.bind_some]
   by_cases hv:nth l ((lo+hi) / 2) < y
   ·
    rw [if_pos (by simpa using hv),show wrap64 ((((lo+hi) / 2:Nat):Int)+1)=(((lo+hi) / 2+1:Nat):Int) from by unfold wrap64;omega]
    refine ih _ _ k (by omega) (by omega) hhl (fun t ht=>?_) h2 (by omega)
    by_cases e:t=(lo+hi) / 2
    ·
     subst e;exact hv
    ·
     have:=hs t ((lo+hi) / 2) (by omega) (by omega);omega
   ·
    rw [if_neg (by simpa using hv)]
    refine ih _ _ k (by omega) (by omega) (by omega) h1 (fun t ht1 ht2=>?_) (by omega)
    by_cases e:t=(lo+hi) / 2
    ·
     subst e;omega
    ·
     have:=hs ((lo+hi) / 2) t (by omega) ht2;omega
  ·
   obtain rfl:hi=lo:=by omega
   exact ih hi hi k (by omega) hlh hhl h1 h2 (by omega)
set_option maxRecDepth 100000 in
theorem gcb_Pict.build (W:World):(Instr.build 109 ((nums .i64 gcb_Pict.L).zipIdx.map fun (x,i)=>(i,x)).toArray).run Try.prog W= .ok (.agg (nums .i64 gcb_Pict.L).toArray) W:=by rfl
set_option maxRecDepth 100000 in
theorem gcb_Pict.size:(nums .i64 gcb_Pict.L).toArray.size=154:=by decide
set_option maxHeartbeats 4000000 in
set_option maxRecDepth 100000 in
theorem gcb_Pict.edges_calls (w:World):Calls Try.prog 72 #[] w fun e w'=>e= .returned (.agg (nums .i64 gcb_Pict.L).toArray)∧Below w.heap.size w w':=by
 go_enter Try.func72,Try.ntmps72
 go_wp2_with (first|((with_reducible refine gate_dst (N:=0) rfl ?_);refine alloc_event rfl 109 rfl 154 (by kernel_rfl) ?_;intro g w1 cs hcs hg hb hbel hsz;have HG:=Aside0.mk (show w.heap.size≤g by omega);have HB:=Aside0.mk hbel;have HH:=Aside0.mk hb;have HCS:=Aside0.mk hcs;clear hcs hg hb hbel hsz)|((with_reducible refine gate_dst (N:=1) rfl ?_);refine build_event rfl (N:=1) rfl 109 (nums .i64 gcb_Pict.L) ?ho (.agg (nums .i64 gcb_Pict.L).toArray) (gcb_Pict.build _) ?_;(case ho=>kernel_rfl);generalize hV:Value.agg (nums .i64 gcb_Pict.L).toArray=V;have HV:=Aside0.mk hV;clear hV)|((with_reducible refine gate_store (t:=109) (p:=0) rfl ?_);refine block_store rfl rfl 109 (.tmp 0) (.tmp 1) rfl rfl V rfl HH.out (by rw [HCS.out,← HV.out];exact gcb_Pict.size) (by rw [HCS.out];kernel_rfl) (by rw [← HV.out];exact nums_one _) ?_;intro w2 hb2 hk2 hs2 hB2;have HB2:=Aside0.mk (hB2 _ _ HB.out HG.out);have HH2:=Aside0.mk (show w2.heap[g]?=some (.cells (nums .i64 gcb_Pict.L).toArray 109 (0,0)) by rw [← HV.out] at hb2;exact hb2);clear hb2 hk2 hs2 hB2 HB HH))
 exact bodyPost_ret (v:=(.agg (nums .i64 gcb_Pict.L).toArray)) (results_c1 rfl _ _ _ _ _ _ _ rfl HH2.out Try.underlying109 rfl (by rw [gcb_Pict.size];kernel_rfl)) rfl ⟨rfl,HB2.out⟩
theorem gcb_Pict.up: ∀ a b,a < b→b < gcb_Pict.L.length→nth gcb_Pict.L a < nth gcb_Pict.L b:=by
 have h: ∀ b:Fin 154,∀ a:Fin b.val,nth gcb_Pict.L a.val < nth gcb_Pict.L b.val:=by decide +kernel
 exact fun a b h1 h2=>h ⟨b,h2⟩ ⟨a,h1⟩
theorem gcb_Pict.blk_C (W:World) (g t:Nat) (l:List Int) (n:Nat) (hn:n=l.length) (hl:l.length < 1000000) (h:W.heap[g]?=some (.cells (nums .i64 l).toArray t (0,0))):(Kd.int .i64).C W (some ⟨g,0,none⟩) n l:=by
 refine ⟨hn.symm,by omega,fun _=>⟨_,rfl,fun j p hj=>⟨[.int .i64 p],rfl,rfl,fun i u hu=>?_⟩⟩⟩
 obtain ⟨hj1,hj2⟩:=List.getElem?_eq_some_iff.1 hj
 have h1:=nums_cell W g t l h j hj1
 have h2:nth l j=p:=by unfold nth;rw [List.getD_eq_getElem?_getD,hj];rfl
 cases i with
 | zero =>
  obtain rfl:Value.int .i64 p=u:=by simpa using hu
  rw [← h2]
  have ea:(⟨g,0,none⟩:Addr).add (j * 1+0)=⟨g,j,none⟩:=by cases j <;> simp [Addr.add]
  exact (congrArg W.cell? ea).trans h1
 | succ i=>simp at hu
set_option maxHeartbeats 1000000 in
set_option maxRecDepth 100000 in
theorem gcb_Pict.calls (a0:Int) (r:Bool) (w:World) (h:gcb_Pict.f a0=some r) :
  Calls Try.prog 45 #[.int .i64 a0] w fun e w'=>e= .returned (.bool r)∧Below w.heap.size w w':=by
 have HB:=Aside0.mk (Below.refl w.heap.size w)
 have H':=Aside0.mk (Option.some.inj h)
 clear h
 obtain ⟨q,b,hq,hqb,hql⟩:=gcb_Pict.bs gcb_Pict.L (by decide) gcb_Pict.up a0 154 0 154 155 (by omega) (by omega) (by decide) (fun t ht=>by omega) (fun t h1 h2=>by have:t < 154:=h2;omega) (by omega)
 have HQ:=Aside0.mk (show slices_BinarySearch_int_int.f 155 gcb_Pict.L a0=some ((q:Int),b) from hq)
 have HQB:=Aside0.mk hqb
 have hql:q≤154:=hql
 clear hq hqb
 go_enter Try.func45,Try.ntmps45
 go_wp2_with (first|(go_at_call 72;refine (gcb_Pict.edges_calls _).mono ?_;rintro e w2 ⟨rfl,hb2⟩;have n0_:=Aside0.mk (below_step HB.out hb2);clear HB hb2;have HB:=n0_;clear n0_;generalize hV1:Value.agg (nums .i64 gcb_Pict.L).toArray=V1;have HV1:=Aside0.mk hV1;clear hV1)|((with_reducible refine gate_dst (N:=3) rfl ?_);refine alloc_event rfl 109 rfl 154 (by kernel_rfl) ?_;intro g3 w4 cs3 hcs hg hb hbel hsz;have HG3:=Aside0.mk (show w.heap.size≤g3 by rw [hg];exact HB.out.size);have n0_:=Aside0.mk (below_step HB.out hbel);have HH3:=Aside0.mk hb;have HCS3:=Aside0.mk hcs;clear HB hcs hg hb hbel hsz;have HB:=n0_;clear n0_)|((with_reducible refine gate_store (t:=109) (p:=3) rfl ?_);refine block_store rfl rfl 109 (.tmp 3) (.tmp 6) rfl rfl V1 rfl HH3.out (by rw [HCS3.out,← HV1.out];exact gcb_Pict.size) (by rw [HCS3.out];kernel_rfl) (by rw [← HV1.out];exact nums_one _) ?_;intro w6 hb2 hk2 hs2 hB2;have n0_:=Aside0.mk (hB2 _ _ HB.out HG3.out);have n1_:=Aside0.mk (show w6.heap[g3]?=some (.cells (nums .i64 gcb_Pict.L).toArray 109 (0,0)) by rw [← HV1.out] at hb2;exact hb2);clear hb2 hk2 hs2 hB2 HB HH3;have HB:=n0_;have HH3:=n1_;clear n0_ n1_))
 have HSC:=Aside0.mk (fun (W:World) (c:Nat) (hc:154≤c) (hh:W.heap[g3]?=some (.cells (nums .i64 gcb_Pict.L).toArray 109 (0,0)))=>slices_BinarySearch_int_int.calls 155 (some ⟨g3,0,none⟩) c gcb_Pict.L a0 (q:Int) b W (gcb_Pict.blk_C W g3 _ gcb_Pict.L 154 (by decide) (by decide) hh) hc HQ.out)
 cases b with
 | true =>
  have hm:((q:Int)+1)=((q+1:Nat):Int):=by omega
  have HR:=Aside0.mk (show r=(((q:Int)+1) % 2==1) by rw [← H'.out];unfold gcb_Pict.oddIn;rw [← HQB.out,if_pos rfl];rw [Bool.eq_iff_iff,beq_iff_eq,beq_iff_eq];omega)
  clear hm H' HQB HQ
  go_wp2_with (go_at_call 73;refine (HSC.out _ _ (by omega) HH3.out).mono ?_;rintro e w7 ⟨rfl,⟨m7,rfl⟩⟩)
  go_ret
  exact ⟨by rw [HR.out];rfl,pw_below_drewN HB.out _⟩
 | false =>
  have HR:=Aside0.mk (show r=((q:Int) % 2==1) by rw [← H'.out];unfold gcb_Pict.oddIn;rw [← HQB.out,if_neg (by decide)];rw [Bool.eq_iff_iff,beq_iff_eq,beq_iff_eq];omega)
  clear H' HQB HQ
  go_wp2_with (go_at_call 73;refine (HSC.out _ _ (by omega) HH3.out).mono ?_;rintro e w7 ⟨rfl,⟨m7,rfl⟩⟩)
  go_ret
  exact ⟨by rw [HR.out];rfl,pw_below_drewN HB.out _⟩
end
/-! ### cluster_see:function 25 -/
def cluster_see.f (a0_0:Int) (a0_1:Int) (a0_2:Int):Option (Int × Int × Int × Int × Int × Bool):=(gcb_Of.f a0_2).bind fun t115=>((cols_Of.f a0_2).bind fun t116=>((gcb_Pict.f a0_2).bind fun t117=>(some (a0_0,a0_1,a0_2,t115,t116,t117))))
def cluster_see.T1:Bool × List (List Nat × List Nat):=(true,[([],[]),([],[]),([1],[1]),([2],[2]),([],[]),([4],[4]),([5,3],[5]),([],[]),([7],[7]),([8,6],[8]),([0,3,6,9],[0,3,6,9]),([10,9,0,1,2,3,4,5,6,7,8,9,10],[10])])
def cluster_see.B1:List Nat:=[0,0,2,6,0,16,62,0,128,510,1023,2047]
theorem cluster_see.tab1:rtab .any (opsOf Try.f25 1)=cluster_see.T1:=by kernel_rfl
theorem cluster_see.bits1:waitsOk cluster_see.T1.2 cluster_see.B1=true:=by kernel_rfl
set_option maxHeartbeats 8000000 in
set_option maxRecDepth 100000 in
theorem cluster_see.calls (a0_0:Int) (a0_1:Int) (a0_2:Int) (r1:Int) (r2:Int) (r3:Int) (r4:Int) (r5:Int) (r6:Bool) (w:World) (h:cluster_see.f a0_0 a0_1 a0_2=some (r1,r2,r3,r4,r5,r6)) :
  Calls Try.prog 25 #[.agg #[.int .i64 a0_0,.int .i64 a0_1,.int .i64 a0_2]] w fun e w'=>e= .returned (.agg #[.int .i64 r1,.int .i64 r2,.int .i64 r3,.int .i64 r4,.int .i64 r5,.bool r6])∧Below w.heap.size w w':=by
 have hu36:=Try.underlying36
 have hu62:=Try.underlying62
 have HB:=Aside0.mk (Below.refl w.heap.size w)
 have H:((gcb_Of.f a0_2).bind fun t115=>((cols_Of.f a0_2).bind fun t116=>((gcb_Pict.f a0_2).bind fun t117=>(some (a0_0,a0_1,a0_2,t115,t116,t117)))))=some (r1,r2,r3,r4,r5,r6):=h
 clear h
 replace H:=Option.bind_eq_some_iff.mp H
 obtain ⟨t115,A20,H⟩:=H
 replace H:((cols_Of.f a0_2).bind fun t116=>((gcb_Pict.f a0_2).bind fun t117=>(some (a0_0,a0_1,a0_2,t115,t116,t117))))=some (r1,r2,r3,r4,r5,r6):=H
 have A2:=Aside0.mk A20
 clear A20
 replace H:=Option.bind_eq_some_iff.mp H
 obtain ⟨t116,A30,H⟩:=H
 replace H:((gcb_Pict.f a0_2).bind fun t117=>(some (a0_0,a0_1,a0_2,t115,t116,t117)))=some (r1,r2,r3,r4,r5,r6):=H
 have A3:=Aside0.mk A30
 clear A30
 replace H:=Option.bind_eq_some_iff.mp H
 obtain ⟨t117,A40,H⟩:=H
 replace H:(some (a0_0,a0_1,a0_2,t115,t116,t117))=some (r1,r2,r3,r4,r5,r6):=H
 have A4:=Aside0.mk A40
 clear A40
 simp only [Option.some.injEq,Prod.mk.injEq] at H
 obtain ⟨rfl,rfl,rfl,rfl,rfl,rfl⟩:=H
 go_enter Try.func25,Try.ntmps25
 try go_wp2_with (first|((with_reducible refine gate_dst (N:=1) rfl ?_);refine box_event ?hg (N:=1) ?hd (cs:= #[.int .i64 a0_0,.int .i64 a0_1,.int .i64 a0_2]) (t:=36) ?hr ?_;(case hd=>rfl);(case hg=>rfl);(case hr=>first|(go_simp;done)|(go_simp;rfl));intro gb113 hg w5 hbox hb;have n0_:=Aside0.mk (below_step (by repeat (first|(with_reducible first|exact HB.out|apply below_alloc|apply pw_below_drewN|apply below_drew1)|exact HB.out)) hb);have n1_:=Aside0.mk (hbox);have n2_:=Aside0.mk ((by rw [hg];exact (below_size (by repeat (first|(with_reducible first|exact HB.out|apply below_alloc|apply pw_below_drewN|apply below_drew1)|exact HB.out))):w.heap.size≤gb113));have n3_:=Aside0.mk ((by rw [hg];exact (below_size (by repeat (first|(with_reducible first|exact HB.out|apply below_alloc|apply pw_below_drewN|apply below_drew1)|exact HB.out))):w.heap.size≤gb113));clear HB;have HB:=n0_;have BK113:=n1_;have GW113:=n2_;have GE113:=n3_;clear n0_ n1_ n2_ n3_;clear hb hbox hg)|((with_reducible refine gate_dst (N:=2) rfl ?_);refine box_event ?hg (N:=2) ?hd (cs:= #[.int .i64 0,.int .i64 0,.int .i64 0,.int .i64 0,.int .i64 0,.bool false]) (t:=62) ?hr ?_;(case hd=>rfl);(case hg=>rfl);(case hr=>first|(go_simp;done)|(go_simp;rfl));intro gb114 hg w6 hbox hb;have n0_:=Aside0.mk (blk_below (g:=gb113) (o:= .cells #[.int .i64 a0_0,.int .i64 a0_1,.int .i64 a0_2] 36 (0,0)) (by (with_reducible repeat (first|refine blk_drewN ?_ _|refine blk_drew ?_|refine blk_alloc ?_ _));exact BK113.out) hb);have n1_:=Aside0.mk (below_step (by repeat (first|(with_reducible first|exact HB.out|apply below_alloc|apply pw_below_drewN|apply below_drew1|refine below_set ?_ GE113.out)|exact HB.out)) hb);have n2_:=Aside0.mk (hbox);have n3_:=Aside0.mk ((by rw [hg];exact (below_size (by repeat (first|(with_reducible first|exact HB.out|apply below_alloc|apply pw_below_drewN|apply below_drew1|refine below_set ?_ GE113.out)|exact HB.out))):w.heap.size≤gb114));have n4_:=Aside0.mk ((by rw [hg];exact (below_size (by repeat (first|(with_reducible first|exact HB.out|apply below_alloc|apply pw_below_drewN|apply below_drew1|refine below_set ?_ GE113.out)|exact HB.out))):w.heap.size≤gb114));have n5_:=Aside0.mk ((by rw [hg];exact Nat.ne_of_lt (blk_lt (g:=gb113) (o:= .cells #[.int .i64 a0_0,.int .i64 a0_1,.int .i64 a0_2] 36 (0,0)) (by (with_reducible repeat (first|refine blk_drewN ?_ _|refine blk_drew ?_|refine blk_alloc ?_ _));exact BK113.out)):gb113≠gb114));have n6_:=Aside0.mk ((by rw [hg];exact Nat.ne_of_gt (blk_lt (g:=gb113) (o:= .cells #[.int .i64 a0_0,.int .i64 a0_1,.int .i64 a0_2] 36 (0,0)) (by (with_reducible repeat (first|refine blk_drewN ?_ _|refine blk_drew ?_|refine blk_alloc ?_ _));exact BK113.out)):gb114≠gb113));clear BK113;clear HB;have BK113:=n0_;have HB:=n1_;have BK114:=n2_;have GW114:=n3_;have GE114:=n4_;have NB113_114:=n5_;have NB114_113:=n6_;clear n0_ n1_ n2_ n3_ n4_ n5_ n6_;clear hb hbox hg))
 have n0_:=Aside0.mk (blk_drew BK113.out)
 have n1_:=Aside0.mk (blk_drew BK114.out)
 have n2_:=Aside0.mk (below_drew1 HB.out)
 clear BK113
 clear BK114
 clear HB
 have BK113:=n0_
 have BK114:=n1_
 have HB:=n2_
 clear n0_ n1_ n2_
 refine start_ (n:=12) (S:=fun w'=>w'.cell? ⟨gb113,0,none⟩=some (.int .i64 a0_0)∧w'.cell? ⟨gb113,1,none⟩=some (.int .i64 a0_1)∧w'.cell? ⟨gb113,2,none⟩=some (.int .i64 a0_2)) (ds:=[]) #[false,false,false,false,false,false,false,false,false,false,false,false] (by kernel_rfl) rfl rfl ⟨(blk_cell BK113.out 0).trans rfl,(blk_cell BK113.out 1).trans rfl,(blk_cell BK113.out 2).trans rfl⟩ (fun hHeld=>?_);refine with_tabW cluster_see.tab1 cluster_see.bits1 (fun HT_ HW_=>?_)
 generalize w6.drew=w7 at BK113 BK114 HB hHeld ⊢
 refine pure_ (i:=1) (N:=some 4) (v:=?_) (a':=?_) #[false,true,false,false,false,false,false,false,false,false,false,false] rfl rfl (any_of HT_.out (by kernel_rfl)) (fun _ _ _ h=>h) (Or.inl ⟨by rfl,?_⟩) ?_ ?_
 rotate_left
 ·
  intro w'
  go_simp
  with_reducible rfl
 rotate_left
 ·
  simp only [Act.put,List.setIfInBounds_toArray,List.set_cons_zero,List.set_cons_succ,i64_w,i32_w]
  rfl
 refine pure_ (i:=4) (N:=some 7) (v:=?_) (a':=?_) #[false,true,false,false,true,false,false,false,false,false,false,false] rfl rfl (any_of HT_.out (by kernel_rfl)) (fun _ _ _ h=>h) (Or.inl ⟨by rfl,?_⟩) ?_ ?_
 rotate_left
 ·
  intro w'
  go_simp
  with_reducible rfl
 rotate_left
 ·
  simp only [Act.put,List.setIfInBounds_toArray,List.set_cons_zero,List.set_cons_succ,i64_w,i32_w]
  rfl
 refine pure_ (i:=7) (N:=some 10) (v:=?_) (a':=?_) #[false,true,false,false,true,false,false,true,false,false,false,false] rfl rfl (any_of HT_.out (by kernel_rfl)) (fun _ _ _ h=>h) (Or.inl ⟨by rfl,?_⟩) ?_ ?_
 rotate_left
 ·
  intro w'
  go_simp
  with_reducible rfl
 rotate_left
 ·
  simp only [Act.put,List.setIfInBounds_toArray,List.set_cons_zero,List.set_cons_succ,i64_w,i32_w]
  rfl
 refine take_ (i:=0) (N:=some 3) (v:=?_) (a':=?_) #[true,true,false,false,true,false,false,true,false,false,false,false] rfl rfl (take_ofW HT_.out HW_.out (by kernel_rfl)) (fun _ _ _ h=>h) (Or.inl ⟨by rfl,?_⟩) hHeld ?_ ?_
 rotate_left
 ·
  rintro w' ⟨s0,s1,s2⟩
  go_simp
  with_reducible rfl
 rotate_left
 ·
  simp only [Act.put,List.setIfInBounds_toArray,List.set_cons_zero,List.set_cons_succ,i64_w,i32_w]
  rfl
 refine take_ (i:=2) (N:=some 5) (v:=?_) (a':=?_) #[true,true,true,false,true,false,false,true,false,false,false,false] rfl rfl (take_ofW HT_.out HW_.out (by kernel_rfl)) (fun _ _ _ h=>h) (Or.inl ⟨by rfl,?_⟩) hHeld ?_ ?_
 rotate_left
 ·
  rintro w' ⟨s0,s1,s2⟩
  go_simp
  with_reducible rfl
 rotate_left
 ·
  simp only [Act.put,List.setIfInBounds_toArray,List.set_cons_zero,List.set_cons_succ,i64_w,i32_w]
  rfl
 refine take_ (i:=5) (N:=some 8) (v:=?_) (a':=?_) #[true,true,true,false,true,true,false,true,false,false,false,false] rfl rfl (take_ofW HT_.out HW_.out (by kernel_rfl)) (fun _ _ _ h=>h) (Or.inl ⟨by rfl,?_⟩) hHeld ?_ ?_
 rotate_left
 ·
  rintro w' ⟨s0,s1,s2⟩
  go_simp
  with_reducible rfl
 rotate_left
 ·
  simp only [Act.put,List.setIfInBounds_toArray,List.set_cons_zero,List.set_cons_succ,i64_w,i32_w]
  rfl
 refine take_ (i:=8) (N:=some 11) (v:=?_) (a':=?_) #[true,true,true,false,true,true,false,true,true,false,false,false] rfl rfl (take_ofW HT_.out HW_.out (by kernel_rfl)) (fun _ _ _ h=>h) (Or.inl ⟨by rfl,?_⟩) hHeld ?_ ?_
 rotate_left
 ·
  rintro w' ⟨s0,s1,s2⟩
  go_simp
  with_reducible rfl
 rotate_left
 ·
  simp only [Act.put,List.setIfInBounds_toArray,List.set_cons_zero,List.set_cons_succ,i64_w,i32_w]
  rfl
 refine one_ (i:=3) (N:=some 6) #[true,true,true,true,true,true,false,true,true,false,false,false] rfl rfl (one_of HT_.out (by kernel_rfl)) (by decide) (fun K hK=>?_)
 refine goes_ Try.func43 (by kernel_rfl) rfl #[.int .i64 a0_2] (by rfl) rfl rfl (by (try simp only [List.map_toArray,List.map_cons,List.map_nil]);first|done|rfl|(simp only [List.length_drop,List.length_take];rfl)) ?_
 with_reducible refine (gcb_Of.calls a0_2 t115 _ A2.out).mono ?_
 rintro e w8 ⟨rfl,hb⟩
 refine ⟨_,rfl,?_⟩
 have n0_:=Aside0.mk (blk_below (g:=gb113) (o:= .cells #[.int .i64 a0_0,.int .i64 a0_1,.int .i64 a0_2] 36 (0,0)) (by (with_reducible repeat (first|refine blk_drewN ?_ _|refine blk_drew ?_|refine blk_alloc ?_ _));exact BK113.out) hb)
 have n1_:=Aside0.mk (blk_below (g:=gb114) (o:= .cells #[.int .i64 0,.int .i64 0,.int .i64 0,.int .i64 0,.int .i64 0,.bool false] 62 (0,0)) (by (with_reducible repeat (first|refine blk_drewN ?_ _|refine blk_drew ?_|refine blk_alloc ?_ _));exact BK114.out) hb)
 have n2_:=Aside0.mk (below_step (by repeat (first|(with_reducible first|exact HB.out|apply below_alloc|apply pw_below_drewN|apply below_drew1|refine below_set ?_ GE113.out|refine below_set ?_ GE114.out)|exact HB.out)) hb)
 clear BK113
 clear BK114
 clear HB
 have BK113:=n0_
 have BK114:=n1_
 have HB:=n2_
 clear n0_ n1_ n2_
 (try clear hb)
 (try clear hb2)
 (try clear hk)
 (try clear hi)
 refine hK.out _ _ ⟨(blk_cell BK113.out 0).trans rfl,(blk_cell BK113.out 1).trans rfl,(blk_cell BK113.out 2).trans rfl⟩ (fun hHeld=>?_)
 clear hK K
 refine norm_ (a':=?_) ?_ ?_
 rotate_left
 ·
  show Act.put _ (some 6) _=_
  simp only [Act.put,List.setIfInBounds_toArray,List.set_cons_zero,List.set_cons_succ,i64_w,i32_w]
  rfl
 refine one_ (i:=6) (N:=some 9) #[true,true,true,true,true,true,true,true,true,false,false,false] rfl rfl (one_of HT_.out (by kernel_rfl)) (by decide) (fun K hK=>?_)
 refine goes_ Try.func44 (by kernel_rfl) rfl #[.int .i64 a0_2] (by rfl) rfl rfl (by (try simp only [List.map_toArray,List.map_cons,List.map_nil]);first|done|rfl|(simp only [List.length_drop,List.length_take];rfl)) ?_
 with_reducible refine (cols_Of.calls a0_2 t116 _ A3.out).mono ?_
 rintro e w9 ⟨rfl,hb⟩
 refine ⟨_,rfl,?_⟩
 have n0_:=Aside0.mk (blk_below (g:=gb113) (o:= .cells #[.int .i64 a0_0,.int .i64 a0_1,.int .i64 a0_2] 36 (0,0)) (by (with_reducible repeat (first|refine blk_drewN ?_ _|refine blk_drew ?_|refine blk_alloc ?_ _));exact BK113.out) hb)
 have n1_:=Aside0.mk (blk_below (g:=gb114) (o:= .cells #[.int .i64 0,.int .i64 0,.int .i64 0,.int .i64 0,.int .i64 0,.bool false] 62 (0,0)) (by (with_reducible repeat (first|refine blk_drewN ?_ _|refine blk_drew ?_|refine blk_alloc ?_ _));exact BK114.out) hb)
 have n2_:=Aside0.mk (below_step (by repeat (first|(with_reducible first|exact HB.out|apply below_alloc|apply pw_below_drewN|apply below_drew1|refine below_set ?_ GE113.out|refine below_set ?_ GE114.out)|exact HB.out)) hb)
 clear BK113
 clear BK114
 clear HB
 have BK113:=n0_
 have BK114:=n1_
 have HB:=n2_
 clear n0_ n1_ n2_
 (try clear hb)
 (try clear hb2)
 (try clear hk)
 (try clear hi)
 refine hK.out _ _ ⟨(blk_cell BK113.out 0).trans rfl,(blk_cell BK113.out 1).trans rfl,(blk_cell BK113.out 2).trans rfl⟩ (fun hHeld=>?_)
 clear hK K
 refine norm_ (a':=?_) ?_ ?_
 rotate_left
 ·
  show Act.put _ (some 9) _=_
  simp only [Act.put,List.setIfInBounds_toArray,List.set_cons_zero,List.set_cons_succ,i64_w,i32_w]
  rfl
 refine one_ (i:=9) (N:=some 12) #[true,true,true,true,true,true,true,true,true,true,false,false] rfl rfl (one_of HT_.out (by kernel_rfl)) (by decide) (fun K hK=>?_)
 refine goes_ Try.func45 (by kernel_rfl) rfl #[.int .i64 a0_2] (by rfl) rfl rfl (by (try simp only [List.map_toArray,List.map_cons,List.map_nil]);first|done|rfl|(simp only [List.length_drop,List.length_take];rfl)) ?_
 with_reducible refine (gcb_Pict.calls a0_2 t117 _ A4.out).mono ?_
 rintro e w10 ⟨rfl,hb⟩
 refine ⟨_,rfl,?_⟩
 have n0_:=Aside0.mk (blk_below (g:=gb113) (o:= .cells #[.int .i64 a0_0,.int .i64 a0_1,.int .i64 a0_2] 36 (0,0)) (by (with_reducible repeat (first|refine blk_drewN ?_ _|refine blk_drew ?_|refine blk_alloc ?_ _));exact BK113.out) hb)
 have n1_:=Aside0.mk (blk_below (g:=gb114) (o:= .cells #[.int .i64 0,.int .i64 0,.int .i64 0,.int .i64 0,.int .i64 0,.bool false] 62 (0,0)) (by (with_reducible repeat (first|refine blk_drewN ?_ _|refine blk_drew ?_|refine blk_alloc ?_ _));exact BK114.out) hb)
 have n2_:=Aside0.mk (below_step (by repeat (first|(with_reducible first|exact HB.out|apply below_alloc|apply pw_below_drewN|apply below_drew1|refine below_set ?_ GE113.out|refine below_set ?_ GE114.out)|exact HB.out)) hb)
 clear BK113
 clear BK114
 clear HB
 have BK113:=n0_
 have BK114:=n1_
 have HB:=n2_
 clear n0_ n1_ n2_
 (try clear hb)
 (try clear hb2)
 (try clear hk)
 (try clear hi)
 refine hK.out _ _ ⟨(blk_cell BK113.out 0).trans rfl,(blk_cell BK113.out 1).trans rfl,(blk_cell BK113.out 2).trans rfl⟩ (fun hHeld=>?_)
 clear hK K
 refine norm_ (a':=?_) ?_ ?_
 rotate_left
 ·
  show Act.put _ (some 12) _=_
  simp only [Act.put,List.setIfInBounds_toArray,List.set_cons_zero,List.set_cons_succ,i64_w,i32_w]
  rfl
 refine pure_ (i:=10) (N:=some 13) (v:=?_) (a':=?_) #[true,true,true,true,true,true,true,true,true,true,true,false] rfl rfl (any_of HT_.out (by kernel_rfl)) (fun _ _ _ h=>h) (Or.inl ⟨by rfl,?_⟩) ?_ ?_
 rotate_left
 ·
  intro w'
  go_simp
  with_reducible rfl
 rotate_left
 ·
  simp only [Act.put,List.setIfInBounds_toArray,List.set_cons_zero,List.set_cons_succ,i64_w,i32_w]
  rfl
 refine one_ (i:=11) (N:=none) #[true,true,true,true,true,true,true,true,true,true,true,true] rfl rfl (one_of HT_.out (by kernel_rfl)) (by decide) (fun K hK=>?_)
 have hs11:w10.cell? ⟨gb114,0,none⟩=some (.int .i64 0):=(blk_cell BK114.out 0).trans rfl
 have hfs11:=blk_frozen BK114.out 0
 have hns11_0:=NB113_114.out
 have hms11_0:=NB114_113.out
 have hs12:w10.cell? ⟨gb114,1,none⟩=some (.int .i64 0):=(blk_cell BK114.out 1).trans rfl
 have hfs12:=blk_frozen BK114.out 1
 have hns12_0:=NB113_114.out
 have hms12_0:=NB114_113.out
 have hs13:w10.cell? ⟨gb114,2,none⟩=some (.int .i64 0):=(blk_cell BK114.out 2).trans rfl
 have hfs13:=blk_frozen BK114.out 2
 have hns13_0:=NB113_114.out
 have hms13_0:=NB114_113.out
 have hs14:w10.cell? ⟨gb114,3,none⟩=some (.int .i64 0):=(blk_cell BK114.out 3).trans rfl
 have hfs14:=blk_frozen BK114.out 3
 have hns14_0:=NB113_114.out
 have hms14_0:=NB114_113.out
 have hs15:w10.cell? ⟨gb114,4,none⟩=some (.int .i64 0):=(blk_cell BK114.out 4).trans rfl
 have hfs15:=blk_frozen BK114.out 4
 have hns15_0:=NB113_114.out
 have hms15_0:=NB114_113.out
 have hs16:w10.cell? ⟨gb114,5,none⟩=some (.bool false):=(blk_cell BK114.out 5).trans rfl
 have hfs16:=blk_frozen BK114.out 5
 have hns16_0:=NB113_114.out
 have hms16_0:=NB114_113.out
 refine skip_ (w1:=?_) (by rfl) rfl ?_ ?_
 rotate_left
 ·
  go_simp
  rfl
 refine hK.out _ _ ⟨((cell_far (p:=⟨gb114,_,none⟩) NB113_114.out _).trans (((cell_far (p:=⟨gb114,_,none⟩) NB113_114.out _).trans (((cell_far (p:=⟨gb114,_,none⟩) NB113_114.out _).trans (((cell_far (p:=⟨gb114,_,none⟩) NB113_114.out _).trans (((cell_far (p:=⟨gb114,_,none⟩) NB113_114.out _).trans (((cell_far (p:=⟨gb114,_,none⟩) NB113_114.out _).trans (hHeld.1)))))))))))),((cell_far (p:=⟨gb114,_,none⟩) NB113_114.out _).trans (((cell_far (p:=⟨gb114,_,none⟩) NB113_114.out _).trans (((cell_far (p:=⟨gb114,_,none⟩) NB113_114.out _).trans (((cell_far (p:=⟨gb114,_,none⟩) NB113_114.out _).trans (((cell_far (p:=⟨gb114,_,none⟩) NB113_114.out _).trans (((cell_far (p:=⟨gb114,_,none⟩) NB113_114.out _).trans (hHeld.2.1)))))))))))),((cell_far (p:=⟨gb114,_,none⟩) NB113_114.out _).trans (((cell_far (p:=⟨gb114,_,none⟩) NB113_114.out _).trans (((cell_far (p:=⟨gb114,_,none⟩) NB113_114.out _).trans (((cell_far (p:=⟨gb114,_,none⟩) NB113_114.out _).trans (((cell_far (p:=⟨gb114,_,none⟩) NB113_114.out _).trans (((cell_far (p:=⟨gb114,_,none⟩) NB113_114.out _).trans (hHeld.2.2))))))))))))⟩ (fun hHeld=>?_)
 clear hK K
 refine done_ (done_of HT_.out (by kernel_rfl)) ?_
 try go_wp2
 refine bodyPost_ret (results_cell_row rfl _ _ gb114 62 #[.int .i64 a0_0,.int .i64 a0_1,.int .i64 a0_2,.int .i64 t115,.int .i64 t116,.bool t117] (0,0) _ rfl (by (with_reducible repeat (first|refine blk_drewN ?_ _|refine blk_drew ?_|refine blk_alloc ?_ _));refine blk_put (cs:= #[.int .i64 a0_0,.int .i64 a0_1,.int .i64 a0_2,.int .i64 t115,.int .i64 t116,.bool false]) ?_ 5 _ rfl;(with_reducible repeat (first|refine blk_drewN ?_ _|refine blk_drew ?_|refine blk_alloc ?_ _));refine blk_put (cs:= #[.int .i64 a0_0,.int .i64 a0_1,.int .i64 a0_2,.int .i64 t115,.int .i64 0,.bool false]) ?_ 4 _ rfl;(with_reducible repeat (first|refine blk_drewN ?_ _|refine blk_drew ?_|refine blk_alloc ?_ _));refine blk_put (cs:= #[.int .i64 a0_0,.int .i64 a0_1,.int .i64 a0_2,.int .i64 0,.int .i64 0,.bool false]) ?_ 3 _ rfl;(with_reducible repeat (first|refine blk_drewN ?_ _|refine blk_drew ?_|refine blk_alloc ?_ _));refine blk_put (cs:= #[.int .i64 a0_0,.int .i64 a0_1,.int .i64 0,.int .i64 0,.int .i64 0,.bool false]) ?_ 2 _ rfl;(with_reducible repeat (first|refine blk_drewN ?_ _|refine blk_drew ?_|refine blk_alloc ?_ _));refine blk_put (cs:= #[.int .i64 a0_0,.int .i64 0,.int .i64 0,.int .i64 0,.int .i64 0,.bool false]) ?_ 1 _ rfl;(with_reducible repeat (first|refine blk_drewN ?_ _|refine blk_drew ?_|refine blk_alloc ?_ _));refine blk_put (cs:= #[.int .i64 0,.int .i64 0,.int .i64 0,.int .i64 0,.int .i64 0,.bool false]) ?_ 0 _ rfl;(with_reducible repeat (first|refine blk_drewN ?_ _|refine blk_drew ?_|refine blk_alloc ?_ _));exact BK114.out) Try.underlying62 rfl (by kernel_rfl)) rfl ?_
 exact ⟨by first|rfl|(simp [errW_none,errW_some] <;> rfl)|(simp [*,errW_none,errW_some] <;> rfl),by repeat (first|(with_reducible first|exact HB.out|apply below_alloc|apply pw_below_drewN|apply below_drew1|refine below_set ?_ GE113.out|refine below_set ?_ GE114.out)|exact HB.out)⟩
end Go.Proofs.Yteoaegigjlhamaa.PC19
