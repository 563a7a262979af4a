/- For the laws of the group C19: the Lean functions that the Go functions compute, and proofs that they do. Written by wip/hprint.py of this repo over the kit's printer; nothing here is trusted: Lean checks it. -/
import Derived.Test.YteoaegigjlhamaaPC19x0
namespace Go.Proofs.Yteoaegigjlhamaa.PC19
open Go.RowKit Go.Proofs.YteoaegigjlhamaaW.PrintWords Go.Proofs.YteoaegigjlhamaaW.PrintLast Go.Proofs.YteoaegigjlhamaaW.PrintMore
attribute [local go_sem] max2_int min2_int max_two min_two max_three min_three max_four min_four
set_option linter.unusedVariables false
set_option linter.unusedSimpArgs false
/-! ### parquetrylaw19_bare:function 14 -/
mutual
def parquetrylaw19_bare.j1:Nat→List (S42)→Int→Option ((List (S42)) × Int)
 | 0,_,_=>none
 | k+1,x0,x4=>parquetrylaw19_bare.l1 k x0 x4 (x0.length:Int)
def parquetrylaw19_bare.l1:Nat→List (S42)→Int→Int→Option ((List (S42)) × Int)
 | 0,_,_,_=>none
 | k+1,x0,x4,x5=>if x5 > x4 then (if 0≤(wrap64 (x5 - 1)) then (if (wrap64 (x5 - 1)) < (x0.length:Int) then (if ((rd_T42 x0 (wrap64 (x5 - 1))).f0)=2 then (parquetrylaw19_bare.l1 k x0 x4 (wrap64 (x5 - 1))) else (if 0≤x4 then (if x4≤x5 then (if x5≤(x0.length:Int) then (some (((x0.take (x5:Int).toNat).drop (x4:Int).toNat),x4)) else (none)) else (none)) else (none))) else (none)) else (none)) else (if 0≤x4 then (if x4≤x5 then (if x5≤(x0.length:Int) then (some (((x0.take (x5:Int).toNat).drop (x4:Int).toNat),x4)) else (none)) else (none)) else (none))
def parquetrylaw19_bare.l0:Nat→List (S42)→Int→Option ((List (S42)) × Int)
 | 0,_,_=>none
 | k+1,x0,x4=>if x4 < (x0.length:Int) then (if 0≤x4 then (if ((rd_T42 x0 x4).f0)=2 then (parquetrylaw19_bare.l0 k x0 (wrap64 (x4+1))) else (parquetrylaw19_bare.j1 k x0 x4)) else (none)) else (parquetrylaw19_bare.j1 k x0 x4)
end
def parquetrylaw19_bare.f (k:Nat) (l0:List (S42)):Option ((List (S42)) × Int):=parquetrylaw19_bare.l0 k l0 0
theorem parquetrylaw19_bare.mono_l: ∀ k,(∀ y0 y1,LeO (parquetrylaw19_bare.j1 k y0 y1) (parquetrylaw19_bare.j1 (k+1) y0 y1))∧(∀ y0 y1 y2,LeO (parquetrylaw19_bare.l1 k y0 y1 y2) (parquetrylaw19_bare.l1 (k+1) y0 y1 y2))∧(∀ y0 y1,LeO (parquetrylaw19_bare.l0 k y0 y1) (parquetrylaw19_bare.l0 (k+1) y0 y1))
 | 0=>⟨fun _ _ r h=>by simp [parquetrylaw19_bare.j1] at h,fun _ _ _ r h=>by simp [parquetrylaw19_bare.l1] at h,fun _ _ r h=>by simp [parquetrylaw19_bare.l0] at h⟩
 | k+1=>by
  obtain ⟨ih0,ih1,ih2⟩:=parquetrylaw19_bare.mono_l k
  refine ⟨?_,?_,?_⟩
  ·
   intro y0 y1
   unfold parquetrylaw19_bare.j1
   repeat' first
   | (with_reducible exact ih0 _ _)
   | (with_reducible exact ih1 _ _ _)
   | (with_reducible exact ih2 _ _)
   | (with_reducible exact LeO.refl _)
   | (with_reducible exact LeO.none _)
   | (with_reducible refine LeO.ite ?_ ?_)
   | (with_reducible refine LeO.bind ?_ (fun _=>?_))
   | exact ih0 _ _
   | exact ih1 _ _ _
   | exact ih2 _ _
   | exact LeO.none _
   | refine LeO.ite ?_ ?_
   | refine LeO.bind ?_ (fun _=>?_)
  ·
   intro y0 y1 y2
   unfold parquetrylaw19_bare.l1
   repeat' first
   | (with_reducible exact ih0 _ _)
   | (with_reducible exact ih1 _ _ _)
   | (with_reducible exact ih2 _ _)
   | (with_reducible exact LeO.refl _)
   | (with_reducible exact LeO.none _)
   | (with_reducible refine LeO.ite ?_ ?_)
   | (with_reducible refine LeO.bind ?_ (fun _=>?_))
   | exact ih0 _ _
   | exact ih1 _ _ _
   | exact ih2 _ _
   | exact LeO.none _
   | refine LeO.ite ?_ ?_
   | refine LeO.bind ?_ (fun _=>?_)
  ·
   intro y0 y1
   unfold parquetrylaw19_bare.l0
   repeat' first
   | (with_reducible exact ih0 _ _)
   | (with_reducible exact ih1 _ _ _)
   | (with_reducible exact ih2 _ _)
   | (with_reducible exact LeO.refl _)
   | (with_reducible exact LeO.none _)
   | (with_reducible refine LeO.ite ?_ ?_)
   | (with_reducible refine LeO.bind ?_ (fun _=>?_))
   | exact ih0 _ _
   | exact ih1 _ _ _
   | exact ih2 _ _
   | exact LeO.none _
   | refine LeO.ite ?_ ?_
   | refine LeO.bind ?_ (fun _=>?_)
theorem parquetrylaw19_bare.mono: ∀ a0 k,LeO (parquetrylaw19_bare.f k a0) (parquetrylaw19_bare.f (k+1) a0):=by
 intro a0 k
 obtain ⟨ih0,ih1,ih2⟩:=parquetrylaw19_bare.mono_l k
 unfold parquetrylaw19_bare.f
 repeat' first
   | (with_reducible exact ih0 _ _)
   | (with_reducible exact ih1 _ _ _)
   | (with_reducible exact ih2 _ _)
   | (with_reducible exact LeO.refl _)
   | (with_reducible exact LeO.none _)
   | (with_reducible refine LeO.ite ?_ ?_)
   | (with_reducible refine LeO.bind ?_ (fun _=>?_))
   | exact ih0 _ _
   | exact ih1 _ _ _
   | exact ih2 _ _
   | exact LeO.none _
   | refine LeO.ite ?_ ?_
   | refine LeO.bind ?_ (fun _=>?_)
set_option maxHeartbeats 8000000 in
set_option maxRecDepth 100000 in
theorem parquetrylaw19_bare.calls (k:Nat) (P0_:Nat→Prop) (A0:Option Addr) (c0:Nat) (l0:List (S42)) (r1:List (S42)) (r2:Int) (w:World) (hs0:Kd.V k42 42 w w.heap.size (fun k_=>P0_ k_) (.slice A0 l0.length c0) l0) (h:parquetrylaw19_bare.f k l0=some (r1,r2)) :
  Calls Try.prog 14 #[.slice A0 l0.length c0] w fun e w'=> ∃ v0_:Value,e= .returned (.tuple #[v0_,.int .i64 r2])∧Kd.V k42 42 w' w.heap.size (fun k_=>(P0_ k_∨w.heap.size≤k_)) v0_ r1∧Below w.heap.size w w':=by
 have HO0:=Aside0.mk (show Kd.V k42 42 w w.heap.size (fun k_=>(P0_ k_∨w.heap.size≤k_)) (.slice A0 l0.length c0) l0 from Kd.V_mono hs0 (fun k_ hk=> .inl hk))
 have HB:=Aside0.mk (Below.refl w.heap.size w)
 have H:(parquetrylaw19_bare.l0 k l0 0)=some (r1,r2):=h
 clear h
 have HC2:=Aside0.mk H
 clear H
 go_enter Try.func14,Try.ntmps14
 go_upto_block 0 with (fail)
 go_cut [4] (fun v4 wc=> ∃ (kq:Nat) (x4_1:Int),v4= .int .i64 x4_1∧Aside0 (parquetrylaw19_bare.j1 kq l0 x4_1=some (r1,r2))∧Aside0 (kq≤k)∧Aside0 (Kd.V k42 42 wc w.heap.size (fun k_=>(P0_ k_∨w.heap.size≤k_)) (.slice A0 l0.length c0) l0)∧Aside0 (Below w.heap.size w wc))
 case first =>
  have H:=HC2.out
  clear HC2
  have H':=Aside0.mk H
  clear H
  go_wp2
  go_loopg [4] k (fun kq v4 w'=> ∃ (x4_1:Int),v4= .int .i64 x4_1∧Aside0 (parquetrylaw19_bare.l0 kq l0 x4_1=some (r1,r2))∧Aside0 (kq≤k)∧Aside0 (Kd.V k42 42 w' w.heap.size (fun k_=>(P0_ k_∨w.heap.size≤k_)) (.slice A0 l0.length c0) l0)∧Aside0 (Below w.heap.size w w'))
  case atStart=>exact ⟨(0),(by first|rfl|(simp;done)|(simp [*];done)),H',⟨Nat.le_refl _⟩,⟨by (with_reducible repeat (first|apply Kd.V_alloc|apply Kd.V_drewN|apply Kd.V_drew));exact HO0.out⟩,⟨by repeat (first|(with_reducible first|exact HB.out|apply below_alloc|apply pw_below_drewN|apply below_drew1)|exact HB.out)⟩⟩
  case round =>
   clear H'
   try clear c1
   try clear p2
   obtain ⟨x4_1,rfl,HA,HK1,HO_0,HB⟩:=hrel
   cases gk with
   | zero=>exact absurd HA.out (by simp [parquetrylaw19_bare.l0])
   | succ k1 =>
    have H:=HA.out
    clear HA
    simp only [parquetrylaw19_bare.l0] at H
    by_cases c3:x4_1 < (l0.length:Int)
    ·
     rw [if_pos c3] at H
     have c3b0:decide (x4_1 < (l0.length:Int))=true:=decide_eq_true c3
     clear c3
     (first|rw [c3b0]|(simp only [i64_w,i32_w];rw [c3b0])|skip)
     by_cases c4:0≤x4_1
     ·
      rw [if_pos c4] at H
      have c4b0:decide (0≤x4_1)=true:=decide_eq_true c4
      clear c4
      by_cases c5:((rd_T42 l0 x4_1).f0)=2
      ·
       rw [if_pos c5] at H
       have c5b0:(((rd_T42 l0 x4_1).f0)==2)=true:=beq_iff_eq.mpr c5
       have c5b1:(((rd_T42 l0 x4_1).f0) !=2)=false:=bne_eq_false_iff_eq.mpr c5
       clear c5
       have H':=Aside0.mk H
       clear H
       have p270:0≤(x4_1:Int):=of_decide_eq_true (by first|(with_reducible assumption)|assumption)
       have q270:x4_1 < (l0.length:Int):=of_decide_eq_true (by first|(with_reducible assumption)|assumption)
       obtain ⟨ad270,e270,hx270_0,hx270_1,hx270_2,hx270_3,hx270_4,hx270_5⟩:=at_T42 (Kd.V_reads' HO_0.out).2.2 x4_1 p270 q270
       cases e270
       replace p270:=eq_true p270
       replace q270:=eq_true q270
       go_wp2
       go_roundg k1
       case measure=>have:=HK1.out;omega
       case rel=>exact ⟨(wrap64 (x4_1+1)),(by first|rfl|(simp;done)|(simp [*];done)),H',⟨by have:=HK1.out;omega⟩,⟨by (with_reducible repeat (first|apply Kd.V_alloc|apply Kd.V_drewN|apply Kd.V_drew));exact HO_0.out⟩,⟨by repeat (first|(with_reducible first|exact HB.out|apply below_alloc|apply pw_below_drewN|apply below_drew1)|exact HB.out)⟩⟩
      ·
       rw [if_neg c5] at H
       have c5b0:(((rd_T42 l0 x4_1).f0)==2)=false:=beq_eq_false_iff_ne.mpr c5
       have c5b1:(((rd_T42 l0 x4_1).f0) !=2)=true:=bne_iff_ne.mpr c5
       have H':=Aside0.mk H
       clear H
       have p270:0≤(x4_1:Int):=of_decide_eq_true (by first|(with_reducible assumption)|assumption)
       have q270:x4_1 < (l0.length:Int):=of_decide_eq_true (by first|(with_reducible assumption)|assumption)
       obtain ⟨ad270,e270,hx270_0,hx270_1,hx270_2,hx270_3,hx270_4,hx270_5⟩:=at_T42 (Kd.V_reads' HO_0.out).2.2 x4_1 p270 q270
       cases e270
       replace p270:=eq_true p270
       replace q270:=eq_true q270
       go_wp2
       go_meet
       case rel=>exact ⟨_,(x4_1),(by first|rfl|(simp;done)|(simp [*];done)),H',⟨by have:=HK1.out;first|omega|exact Nat.le_refl _⟩,⟨by (with_reducible repeat (first|apply Kd.V_alloc|apply Kd.V_drewN|apply Kd.V_drew));exact HO_0.out⟩,⟨by repeat (first|(with_reducible first|exact HB.out|apply below_alloc|apply pw_below_drewN|apply below_drew1)|exact HB.out)⟩⟩
     ·
      rw [if_neg c4] at H
      exact absurd H (by simp)
    ·
     rw [if_neg c3] at H
     have c3b0:decide (x4_1 < (l0.length:Int))=false:=decide_eq_false c3
     clear c3
     (first|rw [c3b0]|(simp only [i64_w,i32_w];rw [c3b0])|skip)
     have H':=Aside0.mk H
     clear H
     go_wp2
     go_meet
     case rel=>exact ⟨_,(x4_1),(by first|rfl|(simp;done)|(simp [*];done)),H',⟨by have:=HK1.out;first|omega|exact Nat.le_refl _⟩,⟨by (with_reducible repeat (first|apply Kd.V_alloc|apply Kd.V_drewN|apply Kd.V_drew));exact HO_0.out⟩,⟨by repeat (first|(with_reducible first|exact HB.out|apply below_alloc|apply pw_below_drewN|apply below_drew1)|exact HB.out)⟩⟩
 case rest =>
  clear HC2
  try clear c1
  try clear p2
  try clear q2
  try clear hx2
  try clear c3
  try clear c3b0
  try clear c4
  try clear c4b0
  try clear c5
  try clear c5b0
  try clear c5b1
  try clear hx270_0
  try clear hx270_1
  try clear hx270_2
  try clear hx270_3
  try clear hx270_4
  try clear hx270_5
  try clear p270
  try clear q270
  obtain ⟨kq,x4_1,rfl,HA,HJ1,HO_0,HB⟩:=hcut
  cases kq with
  | zero=>exact absurd HA.out (by simp [parquetrylaw19_bare.j1])
  | succ kj1 =>
   have H:=HA.out
   clear HA
   simp only [parquetrylaw19_bare.j1] at H
   have H':=Aside0.mk H
   clear H
   go_wp2
   go_loopg [5] kj1 (fun kq v5 w'=> ∃ (x5_2:Int),v5= .int .i64 x5_2∧Aside0 (parquetrylaw19_bare.l1 kq l0 x4_1 x5_2=some (r1,r2))∧Aside0 (kq≤kj1)∧Aside0 (Kd.V k42 42 w' w.heap.size (fun k_=>(P0_ k_∨w.heap.size≤k_)) (.slice A0 l0.length c0) l0)∧Aside0 (Below w.heap.size w w'))
   case atStart=>exact ⟨((l0.length:Int)),(by first|rfl|(simp;done)|(simp [*];done)),H',⟨Nat.le_refl _⟩,⟨by (with_reducible repeat (first|apply Kd.V_alloc|apply Kd.V_drewN|apply Kd.V_drew));exact HO_0.out⟩,⟨by repeat (first|(with_reducible first|exact HB.out|apply below_alloc|apply pw_below_drewN|apply below_drew1)|exact HB.out)⟩⟩
   case round =>
    clear H'
    obtain ⟨x5_2,rfl,HA,HK2,HO_0,HB⟩:=hrel
    cases gk with
    | zero=>exact absurd HA.out (by simp [parquetrylaw19_bare.l1])
    | succ k2 =>
     have H:=HA.out
     clear HA
     simp only [parquetrylaw19_bare.l1] at H
     by_cases c6:x5_2 > x4_1
     ·
      rw [if_pos c6] at H
      have c6b0:decide (x4_1 < x5_2)=true:=decide_eq_true c6
      clear c6
      obtain ⟨ji7,hji7⟩: ∃ j_:Int,(wrap64 (x5_2 - 1))=j_:=⟨_,rfl⟩
      replace H:(if 0≤(ji7) then (if (ji7) < (l0.length:Int) then (if ((rd_T42 l0 (ji7)).f0)=2 then (parquetrylaw19_bare.l1 k2 l0 x4_1 ji7) else (if 0≤x4_1 then (if x4_1≤x5_2 then (if x5_2≤(l0.length:Int) then (some (((l0.take (x5_2:Int).toNat).drop (x4_1:Int).toNat),x4_1)) else (none)) else (none)) else (none))) else (none)) else (none))=some (r1,r2):=by first|(rw [hji7] at H;exact H)|(simp only [hji7] at H ⊢;exact H)
      have hji7w:(IntKind.i64.wrap (x5_2 - 1))=ji7:=(i64_w _).trans hji7
      by_cases c8:0≤(ji7)
      ·
       rw [if_pos c8] at H
       have c8b0:decide (0≤(ji7))=true:=decide_eq_true c8
       clear c8
       by_cases c9:(ji7) < (l0.length:Int)
       ·
        rw [if_pos c9] at H
        have c9b0:decide ((ji7) < (l0.length:Int))=true:=decide_eq_true c9
        clear c9
        by_cases c10:((rd_T42 l0 (ji7)).f0)=2
        ·
         rw [if_pos c10] at H
         have c10b0:(((rd_T42 l0 (ji7)).f0)==2)=true:=beq_iff_eq.mpr c10
         have c10b1:(((rd_T42 l0 (ji7)).f0) !=2)=false:=bne_eq_false_iff_eq.mpr c10
         clear c10
         have H':=Aside0.mk H
         clear H
         have p271:0≤((ji7):Int):=of_decide_eq_true (by first|(with_reducible assumption)|assumption)
         have q271:(ji7) < (l0.length:Int):=of_decide_eq_true (by first|(with_reducible assumption)|assumption)
         obtain ⟨ad271,e271,hx271_0,hx271_1,hx271_2,hx271_3,hx271_4,hx271_5⟩:=at_T42 (Kd.V_reads' HO_0.out).2.2 (ji7) p271 q271
         cases e271
         replace p271:=eq_true p271
         replace q271:=eq_true q271
         go_wp2
         go_roundg k2
         case measure=>have:=HJ1.out;have:=HK2.out;omega
         case rel=>exact ⟨(ji7),(by first|rfl|(simp;done)|(simp only [← hji7] <;> (first|rfl|simp))|(simp [*];done)),H',⟨by have:=HJ1.out;have:=HK2.out;omega⟩,⟨by (with_reducible repeat (first|apply Kd.V_alloc|apply Kd.V_drewN|apply Kd.V_drew));exact HO_0.out⟩,⟨by repeat (first|(with_reducible first|exact HB.out|apply below_alloc|apply pw_below_drewN|apply below_drew1)|exact HB.out)⟩⟩
        ·
         rw [if_neg c10] at H
         have c10b0:(((rd_T42 l0 (ji7)).f0)==2)=false:=beq_eq_false_iff_ne.mpr c10
         have c10b1:(((rd_T42 l0 (ji7)).f0) !=2)=true:=bne_iff_ne.mpr c10
         by_cases c11:0≤x4_1
         ·
          rw [if_pos c11] at H
          have c11b0:=eq_true c11
          have c11b1:decide (0≤x4_1)=true:=decide_eq_true c11
          clear c11
          by_cases c12:x4_1≤x5_2
          ·
           rw [if_pos c12] at H
           have c12b0:=eq_true c12
           have c12b1:decide (x4_1≤x5_2)=true:=decide_eq_true c12
           clear c12
           by_cases c13:x5_2≤(l0.length:Int)
           ·
            rw [if_pos c13] at H
            have c13b0:=eq_true c13
            have c13b1:decide (x5_2≤(l0.length:Int))=true:=decide_eq_true c13
            clear c13
            obtain ⟨y272,hy272⟩: ∃ y_:List (S42),y_=((l0.take (x5_2:Int).toNat).drop (x4_1:Int).toNat):=⟨_,rfl⟩
            replace H:(some (y272,x4_1))=some (r1,r2):=by first|(rw [hy272];with_reducible exact H)|(have H2_:=(Option.bind_some _ _).symm.trans H;rw [hy272];with_reducible exact H2_)|(have H2_:=(Option.bind_some _ _).symm.trans H;with_reducible exact H2_)|with_reducible exact H|(rw [hy272];exact H)|exact H
            have Ny272:=Aside0.mk hy272
            clear hy272
            simp only [Option.some.injEq,Prod.mk.injEq] at H
            obtain ⟨rfl,rfl⟩:=H
            have p271:0≤((ji7):Int):=of_decide_eq_true (by first|(with_reducible assumption)|assumption)
            have q271:(ji7) < (l0.length:Int):=of_decide_eq_true (by first|(with_reducible assumption)|assumption)
            obtain ⟨ad271,e271,hx271_0,hx271_1,hx271_2,hx271_3,hx271_4,hx271_5⟩:=at_T42 (Kd.V_reads' HO_0.out).2.2 (ji7) p271 q271
            cases e271
            replace p271:=eq_true p271
            replace q271:=eq_true q271
            have q14:(x5_2:Int)≤((l0.length:Int):Int):=of_decide_eq_true (by first|(with_reducible assumption)|assumption)
            obtain ⟨i014,hi014,_,hsz14,_⟩:=info_parts info42
            have hroom14:l0.length≤c0:=(Kd.V_reads' HO_0.out).2.1
            have hC14:Kd.F k42 _ _ (some ad271) l0.length l0:=(Kd.V_at (base:=w.heap.size) HO_0.out).2.2
            have ql14:(x4_1:Int)≤(x5_2:Int):=of_decide_eq_true (by first|(with_reducible assumption)|assumption)
            have q014:(0:Int)≤(x4_1:Int):=of_decide_eq_true (by first|(with_reducible assumption)|assumption)
            have hcut14:=cut_mid (P:=Try.prog) 27 42 .i64 .i64 Try.underlying27 hi014 6 hsz14 (some ad271) l0.length c0 x4_1 x5_2 q014 ql14 q14 hroom14
            have hr14:=Kd.F_mid (lo:=(x4_1:Int).toNat) (hi:=(x5_2:Int).toNat) (c:=c0) hC14 (by omega) (by omega) hroom14
            obtain ⟨A14,hA14⟩: ∃ A1,A1=(if c0=(x4_1:Int).toNat then (some ad271) else ((some ad271):Option Addr).map (·.add ((x4_1:Int).toNat * 6))):=⟨_,rfl⟩
            obtain ⟨c14,hc14⟩: ∃ c1,c1=c0 - (x4_1:Int).toNat:=⟨_,rfl⟩
            have hy14:y272.length=(x5_2:Int).toNat - (x4_1:Int).toNat:=(by rw [Ny272.out,List.length_drop,List.length_take] <;> omega)
            rw [show ((l0).take (x5_2:Int).toNat).drop (x4_1:Int).toNat=y272 from Ny272.out.symm] at hr14
            replace hr14:Kd.F k42 _ _ A14 y272.length y272:=(by rw [hA14];exact hr14)
            rw [← hy14,← hA14,← hc14] at hcut14
            have HO276:=Aside0.mk (show Kd.V k42 42 _ w.heap.size _ (.slice A14 y272.length c14) y272 from Kd.V_mk (by rw [hy14,hc14];exact Nat.sub_le_sub_right (Nat.le_trans (by omega) hroom14) _) hr14)
            have HC276:=Aside0.mk (show y272.length≤c14 from by rw [hy14,hc14];exact Nat.sub_le_sub_right (Nat.le_trans (by omega) hroom14) _)
            clear hr14 hC14 hroom14 hi014 hsz14 hc14
            have KY14:=Aside0.mk hy14
            have KA14:=Aside0.mk hA14
            clear hy14 hA14
            replace q14:=eq_true q14
            go_wp2
            go_ret2
            exact ⟨_,by first|rfl|(simp [errW_none,errW_some] <;> rfl)|(simp only [← hji7];first|rfl|(simp [errW_none,errW_some] <;> rfl))|(simp [*,errW_none,errW_some] <;> rfl),by (with_reducible repeat (first|apply Kd.V_alloc|apply Kd.V_drewN|apply Kd.V_drew));exact HO276.out,by repeat (first|(with_reducible first|exact HB.out|apply below_alloc|apply pw_below_drewN|apply below_drew1)|exact HB.out)⟩
           ·
            rw [if_neg c13] at H
            exact absurd H (by simp)
          ·
           rw [if_neg c12] at H
           exact absurd H (by simp)
         ·
          rw [if_neg c11] at H
          exact absurd H (by simp)
       ·
        rw [if_neg c9] at H
        exact absurd H (by simp)
      ·
       rw [if_neg c8] at H
       exact absurd H (by simp)
     ·
      rw [if_neg c6] at H
      have c6b0:decide (x4_1 < x5_2)=false:=decide_eq_false c6
      clear c6
      by_cases c15:0≤x4_1
      ·
       rw [if_pos c15] at H
       have c15b0:=eq_true c15
       have c15b1:decide (0≤x4_1)=true:=decide_eq_true c15
       clear c15
       by_cases c16:x4_1≤x5_2
       ·
        rw [if_pos c16] at H
        have c16b0:=eq_true c16
        have c16b1:decide (x4_1≤x5_2)=true:=decide_eq_true c16
        clear c16
        by_cases c17:x5_2≤(l0.length:Int)
        ·
         rw [if_pos c17] at H
         have c17b0:=eq_true c17
         have c17b1:decide (x5_2≤(l0.length:Int))=true:=decide_eq_true c17
         clear c17
         obtain ⟨y277,hy277⟩: ∃ y_:List (S42),y_=((l0.take (x5_2:Int).toNat).drop (x4_1:Int).toNat):=⟨_,rfl⟩
         replace H:(some (y277,x4_1))=some (r1,r2):=by first|(rw [hy277];with_reducible exact H)|(have H2_:=(Option.bind_some _ _).symm.trans H;rw [hy277];with_reducible exact H2_)|(have H2_:=(Option.bind_some _ _).symm.trans H;with_reducible exact H2_)|with_reducible exact H|(rw [hy277];exact H)|exact H
         have Ny277:=Aside0.mk hy277
         clear hy277
         simp only [Option.some.injEq,Prod.mk.injEq] at H
         obtain ⟨rfl,rfl⟩:=H
         have q18:(x5_2:Int)≤((l0.length:Int):Int):=of_decide_eq_true (by first|(with_reducible assumption)|assumption)
         obtain ⟨i018,hi018,_,hsz18,_⟩:=info_parts info42
         have hroom18:l0.length≤c0:=(Kd.V_reads' HO_0.out).2.1
         have hC18:Kd.F k42 _ _ A0 l0.length l0:=(Kd.V_at (base:=w.heap.size) HO_0.out).2.2
         have ql18:(x4_1:Int)≤(x5_2:Int):=of_decide_eq_true (by first|(with_reducible assumption)|assumption)
         have q018:(0:Int)≤(x4_1:Int):=of_decide_eq_true (by first|(with_reducible assumption)|assumption)
         have hcut18:=cut_mid (P:=Try.prog) 27 42 .i64 .i64 Try.underlying27 hi018 6 hsz18 A0 l0.length c0 x4_1 x5_2 q018 ql18 q18 hroom18
         have hr18:=Kd.F_mid (lo:=(x4_1:Int).toNat) (hi:=(x5_2:Int).toNat) (c:=c0) hC18 (by omega) (by omega) hroom18
         obtain ⟨A18,hA18⟩: ∃ A1,A1=(if c0=(x4_1:Int).toNat then A0 else (A0:Option Addr).map (·.add ((x4_1:Int).toNat * 6))):=⟨_,rfl⟩
         obtain ⟨c18,hc18⟩: ∃ c1,c1=c0 - (x4_1:Int).toNat:=⟨_,rfl⟩
         have hy18:y277.length=(x5_2:Int).toNat - (x4_1:Int).toNat:=(by rw [Ny277.out,List.length_drop,List.length_take] <;> omega)
         rw [show ((l0).take (x5_2:Int).toNat).drop (x4_1:Int).toNat=y277 from Ny277.out.symm] at hr18
         replace hr18:Kd.F k42 _ _ A18 y277.length y277:=(by rw [hA18];exact hr18)
         rw [← hy18,← hA18,← hc18] at hcut18
         have HO281:=Aside0.mk (show Kd.V k42 42 _ w.heap.size _ (.slice A18 y277.length c18) y277 from Kd.V_mk (by rw [hy18,hc18];exact Nat.sub_le_sub_right (Nat.le_trans (by omega) hroom18) _) hr18)
         have HC281:=Aside0.mk (show y277.length≤c18 from by rw [hy18,hc18];exact Nat.sub_le_sub_right (Nat.le_trans (by omega) hroom18) _)
         clear hr18 hC18 hroom18 hi018 hsz18 hc18
         have KY18:=Aside0.mk hy18
         have KA18:=Aside0.mk hA18
         clear hy18 hA18
         replace q18:=eq_true q18
         go_wp2
         go_ret2
         exact ⟨_,by first|rfl|(simp [errW_none,errW_some] <;> rfl)|(simp [*,errW_none,errW_some] <;> rfl),by (with_reducible repeat (first|apply Kd.V_alloc|apply Kd.V_drewN|apply Kd.V_drew));exact HO281.out,by repeat (first|(with_reducible first|exact HB.out|apply below_alloc|apply pw_below_drewN|apply below_drew1)|exact HB.out)⟩
        ·
         rw [if_neg c17] at H
         exact absurd H (by simp)
       ·
        rw [if_neg c16] at H
        exact absurd H (by simp)
      ·
       rw [if_neg c15] at H
       exact absurd H (by simp)
end Go.Proofs.Yteoaegigjlhamaa.PC19
