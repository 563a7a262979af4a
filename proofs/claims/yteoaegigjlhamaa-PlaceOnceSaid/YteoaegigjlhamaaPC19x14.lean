/- For the laws of the group C19: the Lean functions that the Go functions compute, and proofs that they do. Written by wip/hprint.py of this repo over the kit's printer; nothing here is trusted: Lean checks it. -/
import Derived.Test.YteoaegigjlhamaaPC19x0
import Derived.Test.YteoaegigjlhamaaPC19x10
import Derived.Test.YteoaegigjlhamaaPC19x12
import Derived.Test.YteoaegigjlhamaaPC19x13
namespace Go.Proofs.Yteoaegigjlhamaa.PC19
open Go.RowKit Go.Proofs.YteoaegigjlhamaaW.PrintWords Go.Proofs.YteoaegigjlhamaaW.PrintLast Go.Proofs.YteoaegigjlhamaaW.PrintMore
attribute [local go_sem] max2_int min2_int max_two min_two max_three min_three max_four min_four
set_option linter.unusedVariables false
set_option linter.unusedSimpArgs false
/-! ### place_laid_text:function 18 -/
mutual
def place_laid_text.l0:Nat→Int→List (S42)→List (S40)→List Int→List Int→Int→Int→Int→Int→Int→Int→Int→List (S40)→List Int→Int→Option ((List (S42)))
 | 0,_,_,_,_,_,_,_,_,_,_,_,_,_,_,_=>none
 | k+1,x1,x5,x6,x7,x19,x20,x21,x186000,x186001,x186002,x186003,x186004,x186005,x186006,x186007=>if x21 < x20 then (if 0≤x21 then (if x21 < (x19.length:Int) then (if 0≤(rd x19 x21) then (if (rd x19 x21) < (x6.length:Int) then (place_laid_text.l1 k x1 x5 x6 x7 (rd x19 x21) x19 x20 x21 ((rd_T40 x6 (rd x19 x21)).f4) 0 x186000 x186001 x186002 x186003 x186004 x186005 x186006 x186007 ((rd_T40 x6 (rd x19 x21)).f0) ((rd_T40 x6 (rd x19 x21)).f1) ((rd_T40 x6 (rd x19 x21)).f2) ((rd_T40 x6 (rd x19 x21)).f3) ((rd_T40 x6 (rd x19 x21)).f4) ((rd_T40 x6 (rd x19 x21)).f5)) else (none)) else (none)) else (none)) else (none)) else (if x186004=1 then (if x1=1 then ((api_Slot_35.f x5 0 (([(⟨3,0,0,0,0,0⟩:S42)]:List (S42)))).bind fun t207=>(some t207)) else (if x5.length < 2932031007402 then (some (x5++[(⟨3,0,0,0,0,0⟩:S42)])) else (none))) else (some x5))
def place_laid_text.l1:Nat→Int→List (S42)→List (S40)→List Int→Int→List Int→Int→Int→Int→Int→Int→Int→Int→Int→Int→List (S40)→List Int→Int→Int→Int→Int→Int→Int→Int→Option ((List (S42)))
 | 0,_,_,_,_,_,_,_,_,_,_,_,_,_,_,_,_,_,_,_,_,_,_,_,_=>none
 | k+1,x1,x5,x6,x7,x9,x19,x20,x21,x30,x31,x186000,x186001,x186002,x186003,x186004,x186005,x186006,x186007,x198000,x198001,x198002,x198003,x198004,x198005=>if x31 < x30 then (if 0≤x9 then (if x9 < (x7.length:Int) then ((bidi_Shown.f x198005 (rd x7 x9)).bind fun t199=>(if x5.length < 2932031007402 then (place_laid_text.l1 k x1 (x5++[(⟨4,0,0,x198000,x31,t199⟩:S42)]) x6 x7 x9 x19 x20 x21 x30 (wrap64 (x31+1)) x186000 x186001 x186002 x186003 x186004 x186005 x186006 x186007 x198000 x198001 x198002 x198003 x198004 x198005) else (none))) else (none)) else (none)) else (place_laid_text.l0 k x1 x5 x6 x7 x19 x20 (wrap64 (x21+1)) x186000 x186001 x186002 x186003 x186004 x186005 x186006 x186007)
end
def place_laid_text.f (k:Nat) (a0_0:Int) (a0_1:Int) (a0_2:Int) (a0_3:Int) (a0_4:Int) (l0_5:List (S40)) (l0_6:List Int) (a0_7:Int) (a1:Int):Option ((List (S42))):=(place_laid_seen.f k a0_0 a0_1 a0_2 a0_3 a0_4 l0_5 l0_6 a0_7).bind fun bt186=>((bidi_Order.f k bt186.2).bind fun t192=>(place_laid_text.l0 k a1 ([]:List (S42)) bt186.1 bt186.2 t192 (t192.length:Int) 0 a0_0 a0_1 a0_2 a0_3 a0_4 l0_5 l0_6 a0_7))
theorem place_laid_text.mono_l: ∀ k,(∀ y0 y1 y2 y3 y4 y5 y6 y7 y8 y9 y10 y11 y12 y13 y14,LeO (place_laid_text.l0 k y0 y1 y2 y3 y4 y5 y6 y7 y8 y9 y10 y11 y12 y13 y14) (place_laid_text.l0 (k+1) y0 y1 y2 y3 y4 y5 y6 y7 y8 y9 y10 y11 y12 y13 y14))∧(∀ y0 y1 y2 y3 y4 y5 y6 y7 y8 y9 y10 y11 y12 y13 y14 y15 y16 y17 y18 y19 y20 y21 y22 y23,LeO (place_laid_text.l1 k y0 y1 y2 y3 y4 y5 y6 y7 y8 y9 y10 y11 y12 y13 y14 y15 y16 y17 y18 y19 y20 y21 y22 y23) (place_laid_text.l1 (k+1) y0 y1 y2 y3 y4 y5 y6 y7 y8 y9 y10 y11 y12 y13 y14 y15 y16 y17 y18 y19 y20 y21 y22 y23))
 | 0=>⟨fun _ _ _ _ _ _ _ _ _ _ _ _ _ _ _ r h=>by simp [place_laid_text.l0] at h,fun _ _ _ _ _ _ _ _ _ _ _ _ _ _ _ _ _ _ _ _ _ _ _ _ r h=>by simp [place_laid_text.l1] at h⟩
 | k+1=>by
  obtain ⟨ih0,ih1⟩:=place_laid_text.mono_l k
  refine ⟨?_,?_⟩
  ·
   intro y0 y1 y2 y3 y4 y5 y6 y7 y8 y9 y10 y11 y12 y13 y14
   unfold place_laid_text.l0
   repeat' first
   | (with_reducible exact ih0 _ _ _ _ _ _ _ _ _ _ _ _ _ _ _)
   | (with_reducible exact ih1 _ _ _ _ _ _ _ _ _ _ _ _ _ _ _ _ _ _ _ _ _ _ _ _)
   | (with_reducible exact bidi_Order.mono _ _)
   | (with_reducible exact place_laid_seen.mono _ _ _ _ _ _ _ _ _)
   | (with_reducible exact LeO.refl _)
   | (with_reducible exact LeO.none _)
   | (with_reducible refine LeO.ite ?_ ?_)
   | (with_reducible refine LeO.bind ?_ (fun _=>?_))
   | exact ih0 _ _ _ _ _ _ _ _ _ _ _ _ _ _ _
   | exact ih1 _ _ _ _ _ _ _ _ _ _ _ _ _ _ _ _ _ _ _ _ _ _ _ _
   | exact bidi_Order.mono _ _
   | exact place_laid_seen.mono _ _ _ _ _ _ _ _ _
   | exact LeO.none _
   | refine LeO.ite ?_ ?_
   | refine LeO.bind ?_ (fun _=>?_)
  ·
   intro y0 y1 y2 y3 y4 y5 y6 y7 y8 y9 y10 y11 y12 y13 y14 y15 y16 y17 y18 y19 y20 y21 y22 y23
   unfold place_laid_text.l1
   repeat' first
   | (with_reducible exact ih0 _ _ _ _ _ _ _ _ _ _ _ _ _ _ _)
   | (with_reducible exact ih1 _ _ _ _ _ _ _ _ _ _ _ _ _ _ _ _ _ _ _ _ _ _ _ _)
   | (with_reducible exact bidi_Order.mono _ _)
   | (with_reducible exact place_laid_seen.mono _ _ _ _ _ _ _ _ _)
   | (with_reducible exact LeO.refl _)
   | (with_reducible exact LeO.none _)
   | (with_reducible refine LeO.ite ?_ ?_)
   | (with_reducible refine LeO.bind ?_ (fun _=>?_))
   | exact ih0 _ _ _ _ _ _ _ _ _ _ _ _ _ _ _
   | exact ih1 _ _ _ _ _ _ _ _ _ _ _ _ _ _ _ _ _ _ _ _ _ _ _ _
   | exact bidi_Order.mono _ _
   | exact place_laid_seen.mono _ _ _ _ _ _ _ _ _
   | exact LeO.none _
   | refine LeO.ite ?_ ?_
   | refine LeO.bind ?_ (fun _=>?_)
theorem place_laid_text.mono: ∀ a0 a1 a2 a3 a4 a5 a6 a7 a8 k,LeO (place_laid_text.f k a0 a1 a2 a3 a4 a5 a6 a7 a8) (place_laid_text.f (k+1) a0 a1 a2 a3 a4 a5 a6 a7 a8):=by
 intro a0 a1 a2 a3 a4 a5 a6 a7 a8 k
 obtain ⟨ih0,ih1⟩:=place_laid_text.mono_l k
 unfold place_laid_text.f
 repeat' first
   | (with_reducible exact ih0 _ _ _ _ _ _ _ _ _ _ _ _ _ _ _)
   | (with_reducible exact ih1 _ _ _ _ _ _ _ _ _ _ _ _ _ _ _ _ _ _ _ _ _ _ _ _)
   | (with_reducible exact bidi_Order.mono _ _)
   | (with_reducible exact place_laid_seen.mono _ _ _ _ _ _ _ _ _)
   | (with_reducible exact LeO.refl _)
   | (with_reducible exact LeO.none _)
   | (with_reducible refine LeO.ite ?_ ?_)
   | (with_reducible refine LeO.bind ?_ (fun _=>?_))
   | exact ih0 _ _ _ _ _ _ _ _ _ _ _ _ _ _ _
   | exact ih1 _ _ _ _ _ _ _ _ _ _ _ _ _ _ _ _ _ _ _ _ _ _ _ _
   | exact bidi_Order.mono _ _
   | exact place_laid_seen.mono _ _ _ _ _ _ _ _ _
   | exact LeO.none _
   | refine LeO.ite ?_ ?_
   | refine LeO.bind ?_ (fun _=>?_)
def place_laid_text.T10:Bool × List (List Nat × List Nat):=(true,[([],[]),([],[]),([1],[1]),([],[]),([],[]),([4],[4]),([],[]),([],[]),([6,7],[6,7]),([8],[8]),([5,9],[5,9]),([2,3,10],[2,3,10]),([11],[11]),([0,12,10],[0,12]),([13,13,0,1,2,3,4,5,6,7,8,9,10,11,12,13],[0,13])])
def place_laid_text.B10:List Nat:=[0,0,2,0,0,16,0,0,192,448,1008,2046,4094,8191,16383]
theorem place_laid_text.tab10:rtab .any (opsOf Try.f18 10)=place_laid_text.T10:=by kernel_rfl
theorem place_laid_text.bits10:waitsOk place_laid_text.T10.2 place_laid_text.B10=true:=by kernel_rfl
set_option maxHeartbeats 8000000 in
set_option maxRecDepth 100000 in
theorem place_laid_text.calls (k:Nat) (a0_0:Int) (a0_1:Int) (a0_2:Int) (a0_3:Int) (a0_4:Int) (A0_5:Option Addr) (c0_5:Nat) (l0_5:List (S40)) (A0_6:Option Addr) (c0_6:Nat) (l0_6:List Int) (a0_7:Int) (a1:Int) (r:List (S42)) (w:World) (hr0_5:Kd.C k40 w A0_5 l0_5.length l0_5) (hc0_5:l0_5.length≤c0_5) (hr0_6:Kd.C (Kd.int .i64) w A0_6 l0_6.length l0_6) (hc0_6:l0_6.length≤c0_6) (h:place_laid_text.f k a0_0 a0_1 a0_2 a0_3 a0_4 l0_5 l0_6 a0_7 a1=some r) :
  Calls Try.prog 18 #[.agg #[.int .i64 a0_0,.int .i64 a0_1,.int .i64 a0_2,.int .i64 a0_3,.int .i64 a0_4,.slice A0_5 l0_5.length c0_5,.slice A0_6 l0_6.length c0_6,.int .i64 a0_7],.int .i64 a1] w fun e w'=> ∃ v0_:Value,e= .returned (v0_)∧Kd.R k42 42 w' w.heap.size (fun _=>True) v0_ r∧Below w.heap.size w w':=by
 have hu50:=Try.underlying50
 have hu40:=Try.underlying40
 have hu42:=Try.underlying42
 have HR0_5:=Aside0.mk hr0_5
 have HC0_5:=Aside0.mk hc0_5
 clear hr0_5 hc0_5
 have HR0_6:=Aside0.mk hr0_6
 have HC0_6:=Aside0.mk hc0_6
 clear hr0_6 hc0_6
 have HB:=Aside0.mk (Below.refl w.heap.size w)
 have H:((place_laid_seen.f k a0_0 a0_1 a0_2 a0_3 a0_4 l0_5 l0_6 a0_7).bind fun bt186=>((bidi_Order.f k bt186.2).bind fun t192=>(place_laid_text.l0 k a1 ([]:List (S42)) bt186.1 bt186.2 t192 (t192.length:Int) 0 a0_0 a0_1 a0_2 a0_3 a0_4 l0_5 l0_6 a0_7)))=some r:=h
 clear h
 replace H:=Option.bind_eq_some_iff.mp H
 obtain ⟨⟨t186,t189⟩,A30,H⟩:=H
 replace H:((bidi_Order.f k t189).bind fun t192=>(place_laid_text.l0 k a1 ([]:List (S42)) t186 t189 t192 (t192.length:Int) 0 a0_0 a0_1 a0_2 a0_3 a0_4 l0_5 l0_6 a0_7))=some r:=H
 have A3:=Aside0.mk A30
 clear A30
 replace H:=Option.bind_eq_some_iff.mp H
 obtain ⟨t192,A40,H⟩:=H
 replace H:(place_laid_text.l0 k a1 ([]:List (S42)) t186 t189 t192 (t192.length:Int) 0 a0_0 a0_1 a0_2 a0_3 a0_4 l0_5 l0_6 a0_7)=some r:=H
 have A4:=Aside0.mk A40
 clear A40
 have H':=Aside0.mk H
 clear H
 go_enter Try.func18,Try.ntmps18
 try dsimp only [List.append]
 go_wp2_with (first|((with_reducible refine gate_dst (N:=2) rfl ?_);refine box_event ?hg (N:=2) ?hd (cs:= #[.int .i64 a0_0,.int .i64 a0_1,.int .i64 a0_2,.int .i64 a0_3,.int .i64 a0_4,.slice A0_5 l0_5.length c0_5,.slice A0_6 l0_6.length c0_6,.int .i64 a0_7]) (t:=50) ?hr ?_;(case hd=>rfl);(case hg=>rfl);(case hr=>first|(go_simp;done)|(go_simp;rfl));intro gb185 hg w5 hbox hb;have n0_:=Aside0.mk (below_step (by repeat (first|(with_reducible first|exact HB.out|apply below_alloc|apply pw_below_drewN|apply below_drew1)|exact HB.out)) hb);have n1_:=Aside0.mk (hbox);have n2_:=Aside0.mk ((by rw [hg];exact (below_size (by repeat (first|(with_reducible first|exact HB.out|apply below_alloc|apply pw_below_drewN|apply below_drew1)|exact HB.out))):w.heap.size≤gb185));have n3_:=Aside0.mk ((by rw [hg];exact (below_size (by repeat (first|(with_reducible first|exact HB.out|apply below_alloc|apply pw_below_drewN|apply below_drew1)|exact HB.out))):w.heap.size≤gb185));clear HB;have HB:=n0_;have BK185:=n1_;have GW185:=n2_;have GE185:=n3_;clear n0_ n1_ n2_ n3_;clear hb hbox hg;have hcz6_0:w5.cell? ⟨gb185,0,none⟩=some (.int .i64 a0_0):=(blk_cell BK185.out 0).trans rfl;have hcz6_1:w5.cell? ⟨gb185,1,none⟩=some (.int .i64 a0_1):=(blk_cell BK185.out 1).trans rfl;have hcz6_2:w5.cell? ⟨gb185,2,none⟩=some (.int .i64 a0_2):=(blk_cell BK185.out 2).trans rfl;have hcz6_3:w5.cell? ⟨gb185,3,none⟩=some (.int .i64 a0_3):=(blk_cell BK185.out 3).trans rfl;have hcz6_4:w5.cell? ⟨gb185,4,none⟩=some (.int .i64 a0_4):=(blk_cell BK185.out 4).trans rfl;have hcz6_5:w5.cell? ⟨gb185,5,none⟩=some (.slice A0_5 l0_5.length c0_5):=(blk_cell BK185.out 5).trans rfl;have hcz6_6:w5.cell? ⟨gb185,6,none⟩=some (.slice A0_6 l0_6.length c0_6):=(blk_cell BK185.out 6).trans rfl;have hcz6_7:w5.cell? ⟨gb185,7,none⟩=some (.int .i64 a0_7):=(blk_cell BK185.out 7).trans rfl;have hfz6_0:=blk_frozen BK185.out 0;have hfz6_1:=blk_frozen BK185.out 1;have hfz6_2:=blk_frozen BK185.out 2;have hfz6_3:=blk_frozen BK185.out 3;have hfz6_4:=blk_frozen BK185.out 4;have hfz6_5:=blk_frozen BK185.out 5;have hfz6_6:=blk_frozen BK185.out 6;have hfz6_7:=blk_frozen BK185.out 7)|((with_reducible refine gate_callee (f:=32) rfl ?_);refine goesL_ (some 15) rfl rfl Try.func32 (by kernel_rfl) rfl #[.agg #[.int .i64 a0_0,.int .i64 a0_1,.int .i64 a0_2,.int .i64 a0_3,.int .i64 a0_4,.slice A0_5 l0_5.length c0_5,.slice A0_6 l0_6.length c0_6,.int .i64 a0_7]] rfl (by (try simp only [List.map_toArray,List.map_cons,List.map_nil]);first|done|rfl|(simp only [List.length_drop,List.length_take];rfl)) ?_;(with_reducible refine (place_laid_seen.calls k a0_0 a0_1 a0_2 a0_3 a0_4 _ _ l0_5 _ _ l0_6 a0_7 t186 t189 _ ?side1 ?side2 ?side3 ?side4 A3.out).mono ?_);(case side1=>repeat (first|exact (Kd.C_below HR0_5.out HB.out)|(with_reducible refine Kd.C_alloc ?_ _)|(with_reducible refine Kd.C_drewN ?_ _)|(with_reducible refine Kd.C_drew ?_)));(case side2=>exact HC0_5.out);(case side3=>repeat (first|exact (Kd.C_below HR0_6.out HB.out)|(with_reducible refine Kd.C_alloc ?_ _)|(with_reducible refine Kd.C_drewN ?_ _)|(with_reducible refine Kd.C_drew ?_)));(case side4=>exact HC0_6.out);rintro e w7 ⟨v187,v190,rfl,ho0,ho1,hb⟩;refine ⟨_,rfl,?_⟩;have n0_:=Aside0.mk (Kd.R_lower ho0 (below_size (by repeat (first|(with_reducible first|exact HB.out|apply below_alloc|apply pw_below_drewN|apply below_drew1|refine below_set ?_ GE185.out)|exact HB.out))));have n1_:=Aside0.mk (Kd.R_lower ho1 (below_size (by repeat (first|(with_reducible first|exact HB.out|apply below_alloc|apply pw_below_drewN|apply below_drew1|refine below_set ?_ GE185.out)|exact HB.out))));have n2_:=Aside0.mk (blk_below (g:=gb185) (o:= .cells #[.int .i64 a0_0,.int .i64 a0_1,.int .i64 a0_2,.int .i64 a0_3,.int .i64 a0_4,.slice A0_5 l0_5.length c0_5,.slice A0_6 l0_6.length c0_6,.int .i64 a0_7] 50 (0,0)) (by (with_reducible repeat (first|refine blk_drewN ?_ _|refine blk_drew ?_|refine blk_alloc ?_ _));exact BK185.out) hb);have n3_:=Aside0.mk (below_step (by repeat (first|(with_reducible first|exact HB.out|apply below_alloc|apply pw_below_drewN|apply below_drew1|refine below_set ?_ GE185.out)|exact HB.out)) hb);clear BK185;clear HB;have HO188:=n0_;have HO191:=n1_;have BK185:=n2_;have HB:=n3_;clear n0_ n1_ n2_ n3_;(try clear hb);(try clear hb2);(try clear hk);(try clear hi);(try clear ho0);(try clear ho1);obtain ⟨Ao8,co8,eo8⟩:=Kd.R_slice HO191.out;subst eo8)|((with_reducible refine gate_callee (f:=33) rfl ?_);refine goesL_ (some 19) rfl rfl Try.func33 (by kernel_rfl) rfl #[.slice Ao8 t189.length co8] rfl (by (try simp only [List.map_toArray,List.map_cons,List.map_nil]);first|done|rfl|(simp only [List.length_drop,List.length_take];rfl)) ?_;(with_reducible refine (bidi_Order.calls k _ _ t189 t192 _ ?side1 ?side2 A4.out).mono ?_);(case side1=>repeat (first|exact (Kd.R_reads' HO191.out).2.2|(with_reducible refine Kd.C_alloc ?_ _)|(with_reducible refine Kd.C_drewN ?_ _)|(with_reducible refine Kd.C_drew ?_)));(case side2=>exact (Kd.R_reads' HO191.out).2.1);rintro e w9 ⟨v193,rfl,ho0,hb⟩;refine ⟨_,rfl,?_⟩;have n0_:=Aside0.mk (Kd.R_below (by (with_reducible repeat (first|apply Kd.R_alloc|apply Kd.R_drewN|apply Kd.R_drew));exact HO188.out) hb);have n1_:=Aside0.mk (Kd.R_elder' (by (with_reducible repeat (first|apply Kd.R_alloc|apply Kd.R_drewN|apply Kd.R_drew));exact HO191.out) (Kd.R_base ho0) hb);have n2_:=Aside0.mk (Kd.R_lower (Kd.R_new' ho0 (Kd.R_lt (by (with_reducible repeat (first|apply Kd.R_alloc|apply Kd.R_drewN|apply Kd.R_drew));exact HO191.out))) (below_size (by repeat (first|(with_reducible first|exact HB.out|apply below_alloc|apply pw_below_drewN|apply below_drew1|refine below_set ?_ GE185.out)|exact HB.out))));have n3_:=Aside0.mk (blk_below (g:=gb185) (o:= .cells #[.int .i64 a0_0,.int .i64 a0_1,.int .i64 a0_2,.int .i64 a0_3,.int .i64 a0_4,.slice A0_5 l0_5.length c0_5,.slice A0_6 l0_6.length c0_6,.int .i64 a0_7] 50 (0,0)) (by (with_reducible repeat (first|refine blk_drewN ?_ _|refine blk_drew ?_|refine blk_alloc ?_ _));exact BK185.out) hb);have n4_:=Aside0.mk (below_step (by repeat (first|(with_reducible first|exact HB.out|apply below_alloc|apply pw_below_drewN|apply below_drew1|refine below_set ?_ GE185.out)|exact HB.out)) hb);clear HO188;clear HO191;clear BK185;clear HB;have HO188:=n0_;have HO191:=n1_;have HO194:=n2_;have BK185:=n3_;have HB:=n4_;clear n0_ n1_ n2_ n3_ n4_;(try clear hb);(try clear hb2);(try clear hk);(try clear hi);(try clear ho0);obtain ⟨Ao10,co10,eo10⟩:=Kd.R_slice HO194.out;subst eo10))
 go_loopg [5,21] k (fun kq v5 v21 w'=> ∃ (x5_1:List (S42)) (x21_1:Int),v21= .int .i64 x21_1∧Aside0 (place_laid_text.l0 kq a1 x5_1 t186 t189 t192 (t192.length:Int) x21_1 a0_0 a0_1 a0_2 a0_3 a0_4 l0_5 l0_6 a0_7=some r)∧Aside0 (kq≤k)∧Aside0 (Kd.R k42 42 w' w.heap.size (fun _=>True) v5 x5_1)∧Aside0 (Kd.R k40 40 w' w.heap.size (fun _=>True) v187 t186)∧Aside0 (Kd.R (Kd.int .i64) 3 w' w.heap.size (fun k_=>some k_≠((.slice Ao10 t192.length co10):Value).ownBlock) (.slice Ao8 t189.length co8) t189)∧Aside0 (Kd.R (Kd.int .i64) 3 w' w.heap.size (fun k_=>some k_≠((.slice Ao8 t189.length co8):Value).ownBlock) (.slice Ao10 t192.length co10) t192)∧Aside0 (w'.heap[gb185]?=some (.cells #[.int .i64 a0_0,.int .i64 a0_1,.int .i64 a0_2,.int .i64 a0_3,.int .i64 a0_4,(.slice A0_5 l0_5.length c0_5),(.slice A0_6 l0_6.length c0_6),.int .i64 a0_7] 50 (0,0)))∧Aside0 (Below w.heap.size w w'))
 case atStart=>exact ⟨(([]:List (S42))),(0),(by first|rfl|(simp;done)|(simp [*];done)),H',⟨Nat.le_refl _⟩,⟨by first|exact Kd.R_nil _ _ _ _ _|exact Kd.N_nil _ _ _ _ _|exact Kd.V_nil _ _ _ _ _|exact Kd.Q_nil _ _ _ _ _|exact Kd.S_nil _ _ _ _ _⟩,⟨by (with_reducible repeat (first|apply Kd.R_alloc|apply Kd.R_drewN|apply Kd.R_drew));exact HO188.out⟩,⟨by (with_reducible repeat (first|apply Kd.R_alloc|apply Kd.R_drewN|apply Kd.R_drew));exact Kd.R_mono HO191.out (fun _ hk=>hk.2)⟩,⟨by (with_reducible repeat (first|apply Kd.R_alloc|apply Kd.R_drewN|apply Kd.R_drew));exact Kd.R_mono HO194.out (fun _ hk=>hk.2)⟩,⟨by (with_reducible repeat (first|refine blk_drewN ?_ _|refine blk_drew ?_|refine blk_alloc ?_ _));exact BK185.out⟩,⟨by repeat (first|(with_reducible first|exact HB.out|apply below_alloc|apply pw_below_drewN|apply below_drew1|refine below_set ?_ GE185.out)|exact HB.out)⟩⟩
 case round =>
  clear H'
  try clear c1
  try clear p2
  try clear c3
  try clear hcz6_0
  try clear hcz6_1
  try clear hcz6_2
  try clear hcz6_3
  try clear hcz6_4
  try clear hcz6_5
  try clear hcz6_6
  try clear hcz6_7
  try clear hfz6_0
  try clear hfz6_1
  try clear hfz6_2
  try clear hfz6_3
  try clear hfz6_4
  try clear hfz6_5
  try clear hfz6_6
  try clear hfz6_7
  obtain ⟨x5_1,x21_1,rfl,HA,HK1,HO_5,HO_6,HO_7,HO_19,BK185,HB⟩:=hrel
  cases gk with
  | zero=>exact absurd HA.out (by simp [place_laid_text.l0])
  | succ k1 =>
   have H:=HA.out
   clear HA
   simp only [place_laid_text.l0] at H
   by_cases c11:x21_1 < (t192.length:Int)
   ·
    rw [if_pos c11] at H
    have c11b0:decide (x21_1 < (t192.length:Int))=true:=decide_eq_true c11
    clear c11
    by_cases c12:0≤x21_1
    ·
     rw [if_pos c12] at H
     have c12b0:decide (0≤x21_1)=true:=decide_eq_true c12
     clear c12
     by_cases c13:x21_1 < (t192.length:Int)
     ·
      rw [if_pos c13] at H
      have c13b0:decide (x21_1 < (t192.length:Int))=true:=decide_eq_true c13
      clear c13
      by_cases c14:0≤(rd t192 x21_1)
      ·
       rw [if_pos c14] at H
       have c14b0:decide (0≤(rd t192 x21_1))=true:=decide_eq_true c14
       clear c14
       by_cases c15:(rd t192 x21_1) < (t186.length:Int)
       ·
        rw [if_pos c15] at H
        have c15b0:decide ((rd t192 x21_1) < (t186.length:Int))=true:=decide_eq_true c15
        clear c15
        have H':=Aside0.mk H
        clear H
        have p195:0≤(x21_1:Int):=of_decide_eq_true (by first|(with_reducible assumption)|assumption)
        have q195:x21_1 < (t192.length:Int):=of_decide_eq_true (by first|(with_reducible assumption)|assumption)
        obtain ⟨ad195,e195,hx195_0⟩:=Kd.at_int (Kd.R_reads' HO_19.out).2.2 x21_1 p195 q195
        cases e195
        replace p195:=eq_true p195
        replace q195:=eq_true q195
        obtain ⟨Ao16,co16,eo16⟩:=Kd.R_slice HO_6.out
        subst eo16
        have p196:0≤((rd t192 x21_1):Int):=of_decide_eq_true (by first|(with_reducible assumption)|assumption)
        have q196:(rd t192 x21_1) < (t186.length:Int):=of_decide_eq_true (by first|(with_reducible assumption)|assumption)
        obtain ⟨ad196,e196,hx196_0,hx196_1,hx196_2,hx196_3,hx196_4,hx196_5⟩:=at_T40 (Kd.R_reads' HO_6.out).2.2 (rd t192 x21_1) p196 q196
        cases e196
        replace p196:=eq_true p196
        replace q196:=eq_true q196
        go_wp2_with (first|((with_reducible refine gate_dst (N:=10) rfl ?_);refine box_event ?hg (N:=10) ?hd (cs:= #[.int .i64 0,.int .i64 0,.int .i64 0,.int .i64 0,.int .i64 0,.int .i64 0]) (t:=40) ?hr ?_;(case hd=>rfl);(case hg=>rfl);(case hr=>first|(go_simp;done)|(go_simp;rfl));intro gb197 hg w17 hbox hb;have n0_:=Aside0.mk (Kd.R_below (by (with_reducible repeat (first|apply Kd.R_alloc|apply Kd.R_drewN|apply Kd.R_drew));exact HO_5.out) hb);have n1_:=Aside0.mk (Kd.R_below (Kd.R_elderB (by (with_reducible repeat (first|apply Kd.R_alloc|apply Kd.R_drewN|apply Kd.R_drew));exact HO_6.out) gb197 (Nat.le_of_eq hg.symm)) hb);have n2_:=Aside0.mk (Kd.R_below (by (with_reducible repeat (first|apply Kd.R_alloc|apply Kd.R_drewN|apply Kd.R_drew));exact HO_7.out) hb);have n3_:=Aside0.mk (Kd.R_below (by (with_reducible repeat (first|apply Kd.R_alloc|apply Kd.R_drewN|apply Kd.R_drew));exact HO_19.out) hb);have n4_:=Aside0.mk (blk_below (g:=gb185) (o:= .cells #[.int .i64 a0_0,.int .i64 a0_1,.int .i64 a0_2,.int .i64 a0_3,.int .i64 a0_4,.slice A0_5 l0_5.length c0_5,.slice A0_6 l0_6.length c0_6,.int .i64 a0_7] 50 (0,0)) (by (with_reducible repeat (first|refine blk_drewN ?_ _|refine blk_drew ?_|refine blk_alloc ?_ _));exact BK185.out) hb);have n5_:=Aside0.mk (below_step (by repeat (first|(with_reducible first|exact HB.out|apply below_alloc|apply pw_below_drewN|apply below_drew1|refine below_set ?_ GE185.out)|exact HB.out)) hb);have n6_:=Aside0.mk (hbox);have n7_:=Aside0.mk ((by rw [hg];exact (below_size (by repeat (first|(with_reducible first|exact HB.out|apply below_alloc|apply pw_below_drewN|apply below_drew1|refine below_set ?_ GE185.out)|exact HB.out))):w.heap.size≤gb197));have n8_:=Aside0.mk ((by rw [hg];exact (below_size (by repeat (first|(with_reducible first|exact HB.out|apply below_alloc|apply pw_below_drewN|apply below_drew1|refine below_set ?_ GE185.out)|exact HB.out))):w.heap.size≤gb197));have n9_:=Aside0.mk ((by rw [hg];exact Nat.ne_of_lt (blk_lt (g:=gb185) (o:= .cells #[.int .i64 a0_0,.int .i64 a0_1,.int .i64 a0_2,.int .i64 a0_3,.int .i64 a0_4,.slice A0_5 l0_5.length c0_5,.slice A0_6 l0_6.length c0_6,.int .i64 a0_7] 50 (0,0)) (by (with_reducible repeat (first|refine blk_drewN ?_ _|refine blk_drew ?_|refine blk_alloc ?_ _));exact BK185.out)):gb185≠gb197));have n10_:=Aside0.mk ((by rw [hg];exact Nat.ne_of_gt (blk_lt (g:=gb185) (o:= .cells #[.int .i64 a0_0,.int .i64 a0_1,.int .i64 a0_2,.int .i64 a0_3,.int .i64 a0_4,.slice A0_5 l0_5.length c0_5,.slice A0_6 l0_6.length c0_6,.int .i64 a0_7] 50 (0,0)) (by (with_reducible repeat (first|refine blk_drewN ?_ _|refine blk_drew ?_|refine blk_alloc ?_ _));exact BK185.out)):gb197≠gb185));clear HO_5;clear HO_6;clear HO_7;clear HO_19;clear BK185;clear HB;have HO_5:=n0_;have HO_6:=n1_;have HO_7:=n2_;have HO_19:=n3_;have BK185:=n4_;have HB:=n5_;have BK197:=n6_;have GW197:=n7_;have GE197:=n8_;have NB185_197:=n9_;have NB197_185:=n10_;clear n0_ n1_ n2_ n3_ n4_ n5_ n6_ n7_ n8_ n9_ n10_;clear hb hbox hg;have hnb18:=NB197_185.out;have hnc18:=NB185_197.out;have hcz19_0:w17.cell? ⟨gb197,0,none⟩=some (.int .i64 0):=(blk_cell BK197.out 0).trans rfl;have hcz19_1:w17.cell? ⟨gb197,1,none⟩=some (.int .i64 0):=(blk_cell BK197.out 1).trans rfl;have hcz19_2:w17.cell? ⟨gb197,2,none⟩=some (.int .i64 0):=(blk_cell BK197.out 2).trans rfl;have hcz19_3:w17.cell? ⟨gb197,3,none⟩=some (.int .i64 0):=(blk_cell BK197.out 3).trans rfl;have hcz19_4:w17.cell? ⟨gb197,4,none⟩=some (.int .i64 0):=(blk_cell BK197.out 4).trans rfl;have hcz19_5:w17.cell? ⟨gb197,5,none⟩=some (.int .i64 0):=(blk_cell BK197.out 5).trans rfl;have hfz19_0:=blk_frozen BK197.out 0;have hfz19_1:=blk_frozen BK197.out 1;have hfz19_2:=blk_frozen BK197.out 2;have hfz19_3:=blk_frozen BK197.out 3;have hfz19_4:=blk_frozen BK197.out 4;have hfz19_5:=blk_frozen BK197.out 5))
        go_loopg [5,31] k1 (fun kq v5 v31 w'=> ∃ (x5_2:List (S42)) (x31_2:Int),v31= .int .i64 x31_2∧Aside0 (place_laid_text.l1 kq a1 x5_2 t186 t189 (rd t192 x21_1) t192 (t192.length:Int) x21_1 ((rd_T40 t186 (rd t192 x21_1)).f4) x31_2 a0_0 a0_1 a0_2 a0_3 a0_4 l0_5 l0_6 a0_7 ((rd_T40 t186 (rd t192 x21_1)).f0) ((rd_T40 t186 (rd t192 x21_1)).f1) ((rd_T40 t186 (rd t192 x21_1)).f2) ((rd_T40 t186 (rd t192 x21_1)).f3) ((rd_T40 t186 (rd t192 x21_1)).f4) ((rd_T40 t186 (rd t192 x21_1)).f5)=some r)∧Aside0 (kq≤k1)∧Aside0 (Kd.R k42 42 w' w.heap.size (fun _=>True) v5 x5_2)∧Aside0 (Kd.R k40 40 w' w.heap.size (fun k_=>k_≠gb197) (.slice (some ad196) t186.length co16) t186)∧Aside0 (Kd.R (Kd.int .i64) 3 w' w.heap.size (fun k_=>some k_≠((.slice (some ad195) t192.length co10):Value).ownBlock) (.slice Ao8 t189.length co8) t189)∧Aside0 (Kd.R (Kd.int .i64) 3 w' w.heap.size (fun k_=>some k_≠((.slice Ao8 t189.length co8):Value).ownBlock) (.slice (some ad195) t192.length co10) t192)∧Aside0 (w'.heap[gb185]?=some (.cells #[.int .i64 a0_0,.int .i64 a0_1,.int .i64 a0_2,.int .i64 a0_3,.int .i64 a0_4,(.slice A0_5 l0_5.length c0_5),(.slice A0_6 l0_6.length c0_6),.int .i64 a0_7] 50 (0,0)))∧Aside0 (w'.heap[gb197]?=some (.cells #[.int .i64 ((rd_T40 t186 (rd t192 x21_1)).f0),.int .i64 ((rd_T40 t186 (rd t192 x21_1)).f1),.int .i64 ((rd_T40 t186 (rd t192 x21_1)).f2),.int .i64 ((rd_T40 t186 (rd t192 x21_1)).f3),.int .i64 ((rd_T40 t186 (rd t192 x21_1)).f4),.int .i64 ((rd_T40 t186 (rd t192 x21_1)).f5)] 40 (0,0)))∧Aside0 (Below w.heap.size w w'))
        case atStart=>exact ⟨(x5_1),(0),(by first|rfl|(simp;done)|(simp [*];done)),H',⟨Nat.le_refl _⟩,⟨by (with_reducible repeat (first|apply Kd.R_alloc|apply Kd.R_drewN|apply Kd.R_drew));exact Kd.R_mono (Kd.R_far (p:=⟨gb197,5,none⟩) (Kd.R_far (p:=⟨gb197,4,none⟩) (Kd.R_far (p:=⟨gb197,3,none⟩) (Kd.R_far (p:=⟨gb197,2,none⟩) (Kd.R_far (p:=⟨gb197,1,none⟩) (Kd.R_far (p:=⟨gb197,0,none⟩) (Kd.R_types HO_5.out BK197.out (by decide)) (fun _ hk=>hk.2) (.int .i64 ((rd_T40 t186 (rd t192 x21_1)).f0))) (fun _ hk=>hk.2) (.int .i64 ((rd_T40 t186 (rd t192 x21_1)).f1))) (fun _ hk=>hk.2) (.int .i64 ((rd_T40 t186 (rd t192 x21_1)).f2))) (fun _ hk=>hk.2) (.int .i64 ((rd_T40 t186 (rd t192 x21_1)).f3))) (fun _ hk=>hk.2) (.int .i64 ((rd_T40 t186 (rd t192 x21_1)).f4))) (fun _ hk=>hk.2) (.int .i64 ((rd_T40 t186 (rd t192 x21_1)).f5))) (fun _ hk=>trivial)⟩,⟨by (with_reducible repeat (first|apply Kd.R_alloc|apply Kd.R_drewN|apply Kd.R_drew));exact Kd.R_mono (Kd.R_far (p:=⟨gb197,5,none⟩) (Kd.R_far (p:=⟨gb197,4,none⟩) (Kd.R_far (p:=⟨gb197,3,none⟩) (Kd.R_far (p:=⟨gb197,2,none⟩) (Kd.R_far (p:=⟨gb197,1,none⟩) (Kd.R_far (p:=⟨gb197,0,none⟩) (Kd.R_mono HO_6.out (fun k_ hk=>(⟨hk,hk.2⟩:_∧k_≠gb197))) (fun _ hk=>hk.2) (.int .i64 ((rd_T40 t186 (rd t192 x21_1)).f0))) (fun _ hk=>hk.2) (.int .i64 ((rd_T40 t186 (rd t192 x21_1)).f1))) (fun _ hk=>hk.2) (.int .i64 ((rd_T40 t186 (rd t192 x21_1)).f2))) (fun _ hk=>hk.2) (.int .i64 ((rd_T40 t186 (rd t192 x21_1)).f3))) (fun _ hk=>hk.2) (.int .i64 ((rd_T40 t186 (rd t192 x21_1)).f4))) (fun _ hk=>hk.2) (.int .i64 ((rd_T40 t186 (rd t192 x21_1)).f5))) (fun _ hk=>hk.1.2)⟩,⟨by (with_reducible repeat (first|apply Kd.R_alloc|apply Kd.R_drewN|apply Kd.R_drew));exact Kd.R_mono (Kd.R_far (p:=⟨gb197,5,none⟩) (Kd.R_far (p:=⟨gb197,4,none⟩) (Kd.R_far (p:=⟨gb197,3,none⟩) (Kd.R_far (p:=⟨gb197,2,none⟩) (Kd.R_far (p:=⟨gb197,1,none⟩) (Kd.R_far (p:=⟨gb197,0,none⟩) (Kd.R_types HO_7.out BK197.out (by decide)) (fun _ hk=>hk.2) (.int .i64 ((rd_T40 t186 (rd t192 x21_1)).f0))) (fun _ hk=>hk.2) (.int .i64 ((rd_T40 t186 (rd t192 x21_1)).f1))) (fun _ hk=>hk.2) (.int .i64 ((rd_T40 t186 (rd t192 x21_1)).f2))) (fun _ hk=>hk.2) (.int .i64 ((rd_T40 t186 (rd t192 x21_1)).f3))) (fun _ hk=>hk.2) (.int .i64 ((rd_T40 t186 (rd t192 x21_1)).f4))) (fun _ hk=>hk.2) (.int .i64 ((rd_T40 t186 (rd t192 x21_1)).f5))) (fun _ hk=>hk.1)⟩,⟨by (with_reducible repeat (first|apply Kd.R_alloc|apply Kd.R_drewN|apply Kd.R_drew));exact Kd.R_mono (Kd.R_far (p:=⟨gb197,5,none⟩) (Kd.R_far (p:=⟨gb197,4,none⟩) (Kd.R_far (p:=⟨gb197,3,none⟩) (Kd.R_far (p:=⟨gb197,2,none⟩) (Kd.R_far (p:=⟨gb197,1,none⟩) (Kd.R_far (p:=⟨gb197,0,none⟩) (Kd.R_types HO_19.out BK197.out (by decide)) (fun _ hk=>hk.2) (.int .i64 ((rd_T40 t186 (rd t192 x21_1)).f0))) (fun _ hk=>hk.2) (.int .i64 ((rd_T40 t186 (rd t192 x21_1)).f1))) (fun _ hk=>hk.2) (.int .i64 ((rd_T40 t186 (rd t192 x21_1)).f2))) (fun _ hk=>hk.2) (.int .i64 ((rd_T40 t186 (rd t192 x21_1)).f3))) (fun _ hk=>hk.2) (.int .i64 ((rd_T40 t186 (rd t192 x21_1)).f4))) (fun _ hk=>hk.2) (.int .i64 ((rd_T40 t186 (rd t192 x21_1)).f5))) (fun _ hk=>hk.1)⟩,⟨by (with_reducible repeat (first|refine blk_drewN ?_ _|refine blk_drew ?_|refine blk_alloc ?_ _));refine blk_far ?_ NB185_197.out _;(with_reducible repeat (first|refine blk_drewN ?_ _|refine blk_drew ?_|refine blk_alloc ?_ _));refine blk_far ?_ NB185_197.out _;(with_reducible repeat (first|refine blk_drewN ?_ _|refine blk_drew ?_|refine blk_alloc ?_ _));refine blk_far ?_ NB185_197.out _;(with_reducible repeat (first|refine blk_drewN ?_ _|refine blk_drew ?_|refine blk_alloc ?_ _));refine blk_far ?_ NB185_197.out _;(with_reducible repeat (first|refine blk_drewN ?_ _|refine blk_drew ?_|refine blk_alloc ?_ _));refine blk_far ?_ NB185_197.out _;(with_reducible repeat (first|refine blk_drewN ?_ _|refine blk_drew ?_|refine blk_alloc ?_ _));refine blk_far ?_ NB185_197.out _;(with_reducible repeat (first|refine blk_drewN ?_ _|refine blk_drew ?_|refine blk_alloc ?_ _));exact BK185.out⟩,⟨by (with_reducible repeat (first|refine blk_drewN ?_ _|refine blk_drew ?_|refine blk_alloc ?_ _));refine blk_put (cs:= #[.int .i64 ((rd_T40 t186 (rd t192 x21_1)).f0),.int .i64 ((rd_T40 t186 (rd t192 x21_1)).f1),.int .i64 ((rd_T40 t186 (rd t192 x21_1)).f2),.int .i64 ((rd_T40 t186 (rd t192 x21_1)).f3),.int .i64 ((rd_T40 t186 (rd t192 x21_1)).f4),.int .i64 0]) ?_ 5 _ rfl;(with_reducible repeat (first|refine blk_drewN ?_ _|refine blk_drew ?_|refine blk_alloc ?_ _));refine blk_put (cs:= #[.int .i64 ((rd_T40 t186 (rd t192 x21_1)).f0),.int .i64 ((rd_T40 t186 (rd t192 x21_1)).f1),.int .i64 ((rd_T40 t186 (rd t192 x21_1)).f2),.int .i64 ((rd_T40 t186 (rd t192 x21_1)).f3),.int .i64 0,.int .i64 0]) ?_ 4 _ rfl;(with_reducible repeat (first|refine blk_drewN ?_ _|refine blk_drew ?_|refine blk_alloc ?_ _));refine blk_put (cs:= #[.int .i64 ((rd_T40 t186 (rd t192 x21_1)).f0),.int .i64 ((rd_T40 t186 (rd t192 x21_1)).f1),.int .i64 ((rd_T40 t186 (rd t192 x21_1)).f2),.int .i64 0,.int .i64 0,.int .i64 0]) ?_ 3 _ rfl;(with_reducible repeat (first|refine blk_drewN ?_ _|refine blk_drew ?_|refine blk_alloc ?_ _));refine blk_put (cs:= #[.int .i64 ((rd_T40 t186 (rd t192 x21_1)).f0),.int .i64 ((rd_T40 t186 (rd t192 x21_1)).f1),.int .i64 0,.int .i64 0,.int .i64 0,.int .i64 0]) ?_ 2 _ rfl;(with_reducible repeat (first|refine blk_drewN ?_ _|refine blk_drew ?_|refine blk_alloc ?_ _));refine blk_put (cs:= #[.int .i64 ((rd_T40 t186 (rd t192 x21_1)).f0),.int .i64 0,.int .i64 0,.int .i64 0,.int .i64 0,.int .i64 0]) ?_ 1 _ rfl;(with_reducible repeat (first|refine blk_drewN ?_ _|refine blk_drew ?_|refine blk_alloc ?_ _));refine blk_put (cs:= #[.int .i64 0,.int .i64 0,.int .i64 0,.int .i64 0,.int .i64 0,.int .i64 0]) ?_ 0 _ rfl;(with_reducible repeat (first|refine blk_drewN ?_ _|refine blk_drew ?_|refine blk_alloc ?_ _));exact BK197.out⟩,⟨by repeat (first|(with_reducible first|exact HB.out|apply below_alloc|apply pw_below_drewN|apply below_drew1|refine below_set ?_ GE185.out|refine below_set ?_ GE197.out)|exact HB.out)⟩⟩
        case round =>
         clear H'
         try clear p1
         try clear q1
         try clear hx1
         try clear c11
         try clear c11b0
         try clear c12
         try clear c12b0
         try clear c13
         try clear c13b0
         try clear c14
         try clear c14b0
         try clear c15
         try clear c15b0
         try clear c18
         try clear p19
         try clear q19
         try clear hx19
         try clear hcz19_0
         try clear hcz19_1
         try clear hcz19_2
         try clear hcz19_3
         try clear hcz19_4
         try clear hcz19_5
         try clear hfz19_0
         try clear hfz19_1
         try clear hfz19_2
         try clear hfz19_3
         try clear hfz19_4
         try clear hfz19_5
         try clear hx195_0
         try clear hx196_0
         try clear hx196_1
         try clear hx196_2
         try clear hx196_3
         try clear hx196_4
         try clear hx196_5
         try clear p195
         try clear p196
         try clear q195
         try clear q196
         obtain ⟨x5_2,x31_2,rfl,HA,HK2,HO_5,HO_6,HO_7,HO_19,BK185,BK197,HB⟩:=hrel
         cases gk with
         | zero=>exact absurd HA.out (by simp [place_laid_text.l1])
         | succ k2 =>
          have H:=HA.out
          clear HA
          simp only [place_laid_text.l1] at H
          by_cases c20:x31_2 < ((rd_T40 t186 (rd t192 x21_1)).f4)
          ·
           rw [if_pos c20] at H
           have c20b0:decide (x31_2 < ((rd_T40 t186 (rd t192 x21_1)).f4))=true:=decide_eq_true c20
           clear c20
           by_cases c21:0≤(rd t192 x21_1)
           ·
            rw [if_pos c21] at H
            have c21b0:decide (0≤(rd t192 x21_1))=true:=decide_eq_true c21
            clear c21
            by_cases c22:(rd t192 x21_1) < (t189.length:Int)
            ·
             rw [if_pos c22] at H
             have c22b0:decide ((rd t192 x21_1) < (t189.length:Int))=true:=decide_eq_true c22
             clear c22
             replace H:=Option.bind_eq_some_iff.mp H
             obtain ⟨t199,A230,H⟩:=H
             replace H:(if x5_2.length < 2932031007402 then (place_laid_text.l1 k2 a1 (x5_2++[(⟨4,0,0,((rd_T40 t186 (rd t192 x21_1)).f0),x31_2,t199⟩:S42)]) t186 t189 (rd t192 x21_1) t192 (t192.length:Int) x21_1 ((rd_T40 t186 (rd t192 x21_1)).f4) (wrap64 (x31_2+1)) a0_0 a0_1 a0_2 a0_3 a0_4 l0_5 l0_6 a0_7 ((rd_T40 t186 (rd t192 x21_1)).f0) ((rd_T40 t186 (rd t192 x21_1)).f1) ((rd_T40 t186 (rd t192 x21_1)).f2) ((rd_T40 t186 (rd t192 x21_1)).f3) ((rd_T40 t186 (rd t192 x21_1)).f4) ((rd_T40 t186 (rd t192 x21_1)).f5)) else (none))=some r:=H
             have A23:=Aside0.mk A230
             clear A230
             by_cases c24:x5_2.length < 2932031007402
             ·
              rw [if_pos c24] at H
              have LMc24:=Aside0.mk c24
              clear c24
              obtain ⟨y200,hy200⟩: ∃ y_:List (S42),y_=(x5_2++[(⟨4,0,0,((rd_T40 t186 (rd t192 x21_1)).f0),x31_2,t199⟩:S42)]):=⟨_,rfl⟩
              replace H:(place_laid_text.l1 k2 a1 y200 t186 t189 (rd t192 x21_1) t192 (t192.length:Int) x21_1 ((rd_T40 t186 (rd t192 x21_1)).f4) (wrap64 (x31_2+1)) a0_0 a0_1 a0_2 a0_3 a0_4 l0_5 l0_6 a0_7 ((rd_T40 t186 (rd t192 x21_1)).f0) ((rd_T40 t186 (rd t192 x21_1)).f1) ((rd_T40 t186 (rd t192 x21_1)).f2) ((rd_T40 t186 (rd t192 x21_1)).f3) ((rd_T40 t186 (rd t192 x21_1)).f4) ((rd_T40 t186 (rd t192 x21_1)).f5))=some r:=by first|(rw [hy200];with_reducible exact H)|(have H2_:=(Option.bind_some _ _).symm.trans H;rw [hy200];with_reducible exact H2_)|(have H2_:=(Option.bind_some _ _).symm.trans H;with_reducible exact H2_)|with_reducible exact H|(rw [hy200];exact H)|exact H
              have Ny200:=Aside0.mk hy200
              clear hy200
              have H':=Aside0.mk H
              clear H
              try go_wp2
              have n0_:=Aside0.mk (Kd.R_drew HO_5.out)
              have n1_:=Aside0.mk (Kd.R_drew HO_6.out)
              have n2_:=Aside0.mk (Kd.R_drew HO_7.out)
              have n3_:=Aside0.mk (Kd.R_drew HO_19.out)
              have n4_:=Aside0.mk (blk_drew BK185.out)
              have n5_:=Aside0.mk (blk_drew BK197.out)
              have n6_:=Aside0.mk (below_drew1 HB.out)
              clear HO_5
              clear HO_6
              clear HO_7
              clear HO_19
              clear BK185
              clear BK197
              clear HB
              have HO_5:=n0_
              have HO_6:=n1_
              have HO_7:=n2_
              have HO_19:=n3_
              have BK185:=n4_
              have BK197:=n5_
              have HB:=n6_
              clear n0_ n1_ n2_ n3_ n4_ n5_ n6_
              have p198:0≤((rd t192 x21_1):Int):=of_decide_eq_true (by first|(with_reducible assumption)|assumption)
              have q198:(rd t192 x21_1) < (t189.length:Int):=of_decide_eq_true (by first|(with_reducible assumption)|assumption)
              obtain ⟨ad198,e198,hx198_0⟩:=Kd.at_int (Kd.R_reads' HO_7.out).2.2 (rd t192 x21_1) p198 q198
              cases e198
              replace p198:=eq_true p198
              replace q198:=eq_true q198
              refine start_ (n:=15) (S:=fun w'=>w'.cell? ⟨gb197,0,none⟩=some (.int .i64 ((rd_T40 t186 (rd t192 x21_1)).f0))∧w'.cell? ⟨gb197,1,none⟩=some (.int .i64 ((rd_T40 t186 (rd t192 x21_1)).f1))∧w'.cell? ⟨gb197,2,none⟩=some (.int .i64 ((rd_T40 t186 (rd t192 x21_1)).f2))∧w'.cell? ⟨gb197,3,none⟩=some (.int .i64 ((rd_T40 t186 (rd t192 x21_1)).f3))∧w'.cell? ⟨gb197,4,none⟩=some (.int .i64 ((rd_T40 t186 (rd t192 x21_1)).f4))∧w'.cell? ⟨gb197,5,none⟩=some (.int .i64 ((rd_T40 t186 (rd t192 x21_1)).f5))∧w'.cell? (ad198.add ((rd t192 x21_1)).toNat)=some (.int .i64 (rd t189 (rd t192 x21_1)))) (ds:=[12,13]) #[false,false,false,false,false,false,false,false,false,false,false,false,false,false,false] (by kernel_rfl) rfl rfl ⟨(blk_cell BK197.out 0).trans rfl,(blk_cell BK197.out 1).trans rfl,(blk_cell BK197.out 2).trans rfl,(blk_cell BK197.out 3).trans rfl,(blk_cell BK197.out 4).trans rfl,(blk_cell BK197.out 5).trans rfl,hx198_0⟩ (fun hHeld=>?_);refine with_tabW place_laid_text.tab10 place_laid_text.bits10 (fun HT_ HW_=>?_)
              generalize wr.drew=w25 at HO_5 HO_6 HO_7 HO_19 BK185 BK197 HB hx198_0 hHeld ⊢
              refine pure_ (i:=0) (N:=some 34) (v:=?_) (a':=?_) #[true,false,false,false,false,false,false,false,false,false,false,false,false,false,false] rfl rfl (any_of HT_.out (by kernel_rfl)) (fun _ _ _ h=>h) (Or.inl ⟨by rfl,?_⟩) ?_ ?_
              rotate_left
              ·
               intro w'
               go_simp
               with_reducible rfl
              rotate_left
              ·
               simp only [Act.put,List.setIfInBounds_toArray,List.set_cons_zero,List.set_cons_succ,i64_w,i32_w]
               rfl
              refine pure_ (i:=1) (N:=some 35) (v:=?_) (a':=?_) #[true,true,false,false,false,false,false,false,false,false,false,false,false,false,false] rfl rfl (any_of HT_.out (by kernel_rfl)) (fun _ _ _ h=>h) (Or.inl ⟨by rfl,?_⟩) ?_ ?_
              rotate_left
              ·
               intro w'
               go_simp
               with_reducible rfl
              rotate_left
              ·
               simp only [Act.put,List.setIfInBounds_toArray,List.set_cons_zero,List.set_cons_succ,i64_w,i32_w]
               rfl
              refine pure_ (i:=3) (N:=some 37) (v:=?_) (a':=?_) #[true,true,false,true,false,false,false,false,false,false,false,false,false,false,false] rfl rfl (any_of HT_.out (by kernel_rfl)) (fun _ _ _ h=>h) (Or.inl ⟨by rfl,?_⟩) ?_ ?_
              rotate_left
              ·
               intro w'
               go_simp
               with_reducible rfl
              rotate_left
              ·
               simp only [Act.put,List.setIfInBounds_toArray,List.set_cons_zero,List.set_cons_succ,i64_w,i32_w]
               rfl
              refine pure_ (i:=4) (N:=some 38) (v:=?_) (a':=?_) #[true,true,false,true,true,false,false,false,false,false,false,false,false,false,false] rfl rfl (any_of HT_.out (by kernel_rfl)) (fun _ _ _ h=>h) (Or.inl ⟨by rfl,?_⟩) ?_ ?_
              rotate_left
              ·
               intro w'
               go_simp
               with_reducible rfl
              rotate_left
              ·
               simp only [Act.put,List.setIfInBounds_toArray,List.set_cons_zero,List.set_cons_succ,i64_w,i32_w]
               rfl
              refine pure_ (i:=6) (N:=some 40) (v:=?_) (a':=?_) #[true,true,false,true,true,false,true,false,false,false,false,false,false,false,false] rfl rfl (any_of HT_.out (by kernel_rfl)) (fun _ _ _ h=>h) (Or.inl ⟨by rfl,?_⟩) ?_ ?_
              rotate_left
              ·
               intro w'
               go_simp
               with_reducible rfl
              rotate_left
              ·
               simp only [Act.put,List.setIfInBounds_toArray,List.set_cons_zero,List.set_cons_succ,i64_w,i32_w]
               rfl
              refine pure_ (i:=7) (N:=some 41) (v:=?_) (a':=?_) #[true,true,false,true,true,false,true,true,false,false,false,false,false,false,false] rfl rfl (any_of HT_.out (by kernel_rfl)) (fun _ _ _ h=>h) (Or.inl ⟨by rfl,?_⟩) ?_ ?_
              rotate_left
              ·
               intro w'
               go_simp
               with_reducible rfl
              rotate_left
              ·
               simp only [Act.put,List.setIfInBounds_toArray,List.set_cons_zero,List.set_cons_succ,i64_w,i32_w]
               rfl
              refine pure_ (i:=8) (N:=some 42) (v:=?_) (a':=?_) #[true,true,false,true,true,false,true,true,true,false,false,false,false,false,false] rfl rfl (any_of HT_.out (by kernel_rfl)) (fun _ _ _ h=>h) (Or.inl ⟨by rfl,?_⟩) ?_ ?_
              rotate_left
              ·
               intro w'
               go_simp
               with_reducible rfl
              rotate_left
              ·
               simp only [Act.put,List.setIfInBounds_toArray,List.set_cons_zero,List.set_cons_succ,i64_w,i32_w]
               rfl
              refine take_ (i:=2) (N:=some 36) (v:=?_) (a':=?_) #[true,true,true,true,true,false,true,true,true,false,false,false,false,false,false] rfl rfl (take_ofW HT_.out HW_.out (by kernel_rfl)) (fun _ _ _ h=>h) (Or.inl ⟨by rfl,?_⟩) hHeld ?_ ?_
              rotate_left
              ·
               rintro w' ⟨s0,s1,s2,s3,s4,s5,s6⟩
               go_simp
               with_reducible rfl
              rotate_left
              ·
               simp only [Act.put,List.setIfInBounds_toArray,List.set_cons_zero,List.set_cons_succ,i64_w,i32_w]
               rfl
              refine take_ (i:=5) (N:=some 39) (v:=?_) (a':=?_) #[true,true,true,true,true,true,true,true,true,false,false,false,false,false,false] rfl rfl (take_ofW HT_.out HW_.out (by kernel_rfl)) (fun _ _ _ h=>h) (Or.inl ⟨by rfl,?_⟩) hHeld ?_ ?_
              rotate_left
              ·
               rintro w' ⟨s0,s1,s2,s3,s4,s5,s6⟩
               go_simp
               with_reducible rfl
              rotate_left
              ·
               simp only [Act.put,List.setIfInBounds_toArray,List.set_cons_zero,List.set_cons_succ,i64_w,i32_w]
               rfl
              refine take_ (i:=9) (N:=some 43) (v:=?_) (a':=?_) #[true,true,true,true,true,true,true,true,true,true,false,false,false,false,false] rfl rfl (take_ofW HT_.out HW_.out (by kernel_rfl)) (fun _ _ _ h=>h) (Or.inl ⟨by rfl,?_⟩) hHeld ?_ ?_
              rotate_left
              ·
               rintro w' ⟨s0,s1,s2,s3,s4,s5,s6⟩
               go_simp
               with_reducible rfl
              rotate_left
              ·
               simp only [Act.put,List.setIfInBounds_toArray,List.set_cons_zero,List.set_cons_succ,i64_w,i32_w]
               rfl
              refine one_ (i:=10) (N:=some 44) #[true,true,true,true,true,true,true,true,true,true,true,false,false,false,false] rfl rfl (one_of HT_.out (by kernel_rfl)) (by decide) (fun K hK=>?_)
              refine goes_ Try.func34 (by kernel_rfl) rfl #[.int .i64 ((rd_T40 t186 (rd t192 x21_1)).f5),.int .i64 (rd t189 (rd t192 x21_1))] (by rfl) rfl rfl (by (try simp only [List.map_toArray,List.map_cons,List.map_nil]);first|done|rfl|(simp only [List.length_drop,List.length_take];rfl)) ?_
              with_reducible refine (bidi_Shown.calls ((rd_T40 t186 (rd t192 x21_1)).f5) (rd t189 (rd t192 x21_1)) t199 _ A23.out).mono ?_
              rintro e w26 ⟨rfl,hb⟩
              have HS6_:=(hb.cell (World.block_lt_of_cell? _ _ (hHeld.2.2.2.2.2.2))).trans (hHeld.2.2.2.2.2.2)
              refine ⟨_,rfl,?_⟩
              have n0_:=Aside0.mk (Kd.R_below (by (with_reducible repeat (first|apply Kd.R_alloc|apply Kd.R_drewN|apply Kd.R_drew));exact HO_5.out) hb)
              have n1_:=Aside0.mk (Kd.R_below (by (with_reducible repeat (first|apply Kd.R_alloc|apply Kd.R_drewN|apply Kd.R_drew));exact HO_6.out) hb)
              have n2_:=Aside0.mk (Kd.R_below (by (with_reducible repeat (first|apply Kd.R_alloc|apply Kd.R_drewN|apply Kd.R_drew));exact HO_7.out) hb)
              have n3_:=Aside0.mk (Kd.R_below (by (with_reducible repeat (first|apply Kd.R_alloc|apply Kd.R_drewN|apply Kd.R_drew));exact HO_19.out) hb)
              have n4_:=Aside0.mk (blk_below (g:=gb185) (o:= .cells #[.int .i64 a0_0,.int .i64 a0_1,.int .i64 a0_2,.int .i64 a0_3,.int .i64 a0_4,.slice A0_5 l0_5.length c0_5,.slice A0_6 l0_6.length c0_6,.int .i64 a0_7] 50 (0,0)) (by (with_reducible repeat (first|refine blk_drewN ?_ _|refine blk_drew ?_|refine blk_alloc ?_ _));exact BK185.out) hb)
              have n5_:=Aside0.mk (blk_below (g:=gb197) (o:= .cells #[.int .i64 ((rd_T40 t186 (rd t192 x21_1)).f0),.int .i64 ((rd_T40 t186 (rd t192 x21_1)).f1),.int .i64 ((rd_T40 t186 (rd t192 x21_1)).f2),.int .i64 ((rd_T40 t186 (rd t192 x21_1)).f3),.int .i64 ((rd_T40 t186 (rd t192 x21_1)).f4),.int .i64 ((rd_T40 t186 (rd t192 x21_1)).f5)] 40 (0,0)) (by (with_reducible repeat (first|refine blk_drewN ?_ _|refine blk_drew ?_|refine blk_alloc ?_ _));exact BK197.out) hb)
              have n6_:=Aside0.mk (below_step (by repeat (first|(with_reducible first|exact HB.out|apply below_alloc|apply pw_below_drewN|apply below_drew1|refine below_set ?_ GE185.out|refine below_set ?_ GE197.out)|exact HB.out)) hb)
              clear HO_5
              clear HO_6
              clear HO_7
              clear HO_19
              clear BK185
              clear BK197
              clear HB
              have HO_5:=n0_
              have HO_6:=n1_
              have HO_7:=n2_
              have HO_19:=n3_
              have BK185:=n4_
              have BK197:=n5_
              have HB:=n6_
              clear n0_ n1_ n2_ n3_ n4_ n5_ n6_
              (try clear hb)
              (try clear hb2)
              (try clear hk)
              (try clear hi)
              refine hK.out _ _ ⟨(blk_cell BK197.out 0).trans rfl,(blk_cell BK197.out 1).trans rfl,(blk_cell BK197.out 2).trans rfl,(blk_cell BK197.out 3).trans rfl,(blk_cell BK197.out 4).trans rfl,(blk_cell BK197.out 5).trans rfl,HS6_⟩ (fun hHeld=>?_)
              clear hK K
              refine norm_ (a':=?_) ?_ ?_
              rotate_left
              ·
               show Act.put _ (some 44) _=_
               simp only [Act.put,List.setIfInBounds_toArray,List.set_cons_zero,List.set_cons_succ,i64_w,i32_w]
               rfl
              refine pure_ (i:=11) (N:=some 45) (v:=?_) (a':=?_) #[true,true,true,true,true,true,true,true,true,true,true,true,false,false,false] rfl rfl (any_of HT_.out (by kernel_rfl)) (fun _ _ _ h=>h) (Or.inl ⟨by rfl,?_⟩) ?_ ?_
              rotate_left
              ·
               intro w'
               go_simp
               with_reducible rfl
              rotate_left
              ·
               simp only [Act.put,List.setIfInBounds_toArray,List.set_cons_zero,List.set_cons_succ,i64_w,i32_w]
               rfl
              refine last_ (i:=12) (N:=some 46) #[true,true,true,true,true,true,true,true,true,true,true,true,true,false,false] rfl rfl (one_of HT_.out (by kernel_rfl)) (by decide) (fun K hK=>?_)
              refine value_ (w1:=?_) (v:=?_) (by rfl) rfl ?_ ?_
              rotate_left 2
              ·
               go_simp
               constructor
               ·
                rfl
               ·
                rfl
              refine hK.out _ _ ?_
              clear hK K
              refine norm_ (a':=?_) ?_ ?_
              rotate_left
              ·
               show Act.put _ (some 46) _=_
               simp only [Act.put,List.setIfInBounds_toArray,List.set_cons_zero,List.set_cons_succ,i64_w,i32_w]
               rfl
              refine last_ (i:=13) (N:=some 47) #[true,true,true,true,true,true,true,true,true,true,true,true,true,true,false] rfl rfl (one_of HT_.out (by kernel_rfl)) (by decide) (fun K hK=>?_)
              refine Kd.R_append_step k42 (w0:=w) w.heap.size (by rfl) (.tmp 34) (.tmp 46) 27 42 (.agg #[(.int .i64 0),(.int .i64 0),(.int .i64 0),(.int .i64 0),(.int .i64 0),(.int .i64 0)]) 48 rfl Try.underlying27 info42 rfl (by decide) (by omega) u5 x5_2 (⟨4,0,0,((rd_T40 t186 (rd t192 x21_1)).f0),x31_2,t199⟩:S42) [.int .i64 4,.int .i64 0,.int .i64 0,.int .i64 ((rd_T40 t186 (rd t192 x21_1)).f0),.int .i64 x31_2,.int .i64 t199] (fun _=>True) (fun _=>False) rfl rfl ?aP (fun _ hk=>hk.elim) ?aF ?aO ?aB ?aS ?aL ?_
              (case aP=>exact k42_mkM _ _ _ (⟨4,0,0,((rd_T40 t186 (rd t192 x21_1)).f0),x31_2,t199⟩:S42))
              (case aB=>exact (by repeat (first|(with_reducible first|exact HB.out|apply below_alloc|apply pw_below_drewN|apply below_drew1|refine below_set ?_ GE185.out|refine below_set ?_ GE197.out)|exact HB.out)))
              (case aF=>exact (fun _ _=>trivial))
              (case aO=>exact (by (with_reducible repeat (first|apply Kd.R_alloc|apply Kd.R_drewN|apply Kd.R_drew));exact HO_5.out))
              (case aS=>exact (below_size (by repeat (first|(with_reducible first|exact HB.out|apply below_alloc|apply pw_below_drewN|apply below_drew1|refine below_set ?_ GE185.out|refine below_set ?_ GE197.out)|exact HB.out))))
              (case aL=>have:=LMc24.out;omega)
              intro v201 w27 ho hb hg hat
              rw [← Ny200.out] at ho
              have n0_:=Aside0.mk (Kd.R_over' (by (with_reducible repeat (first|apply Kd.R_alloc|apply Kd.R_drewN|apply Kd.R_drew));exact HO_6.out) (Kd.R_typed (by (with_reducible repeat (first|apply Kd.R_alloc|apply Kd.R_drewN|apply Kd.R_drew));exact HO_5.out)) (by decide) hg)
              have n1_:=Aside0.mk (Kd.R_over' (by (with_reducible repeat (first|apply Kd.R_alloc|apply Kd.R_drewN|apply Kd.R_drew));exact HO_7.out) (Kd.R_typed (by (with_reducible repeat (first|apply Kd.R_alloc|apply Kd.R_drewN|apply Kd.R_drew));exact HO_5.out)) (by decide) hg)
              have n2_:=Aside0.mk (Kd.R_over' (by (with_reducible repeat (first|apply Kd.R_alloc|apply Kd.R_drewN|apply Kd.R_drew));exact HO_19.out) (Kd.R_typed (by (with_reducible repeat (first|apply Kd.R_alloc|apply Kd.R_drewN|apply Kd.R_drew));exact HO_5.out)) (by decide) hg)
              have n3_:=Aside0.mk (blk_grown (g:=gb185) (o:= .cells #[.int .i64 a0_0,.int .i64 a0_1,.int .i64 a0_2,.int .i64 a0_3,.int .i64 a0_4,.slice A0_5 l0_5.length c0_5,.slice A0_6 l0_6.length c0_6,.int .i64 a0_7] 50 (0,0)) (by (with_reducible repeat (first|refine blk_drewN ?_ _|refine blk_drew ?_|refine blk_alloc ?_ _));exact BK185.out) hg (Kd.R_ne HO_5.out BK185.out (by decide)))
              have n4_:=Aside0.mk (blk_grown (g:=gb197) (o:= .cells #[.int .i64 ((rd_T40 t186 (rd t192 x21_1)).f0),.int .i64 ((rd_T40 t186 (rd t192 x21_1)).f1),.int .i64 ((rd_T40 t186 (rd t192 x21_1)).f2),.int .i64 ((rd_T40 t186 (rd t192 x21_1)).f3),.int .i64 ((rd_T40 t186 (rd t192 x21_1)).f4),.int .i64 ((rd_T40 t186 (rd t192 x21_1)).f5)] 40 (0,0)) (by (with_reducible repeat (first|refine blk_drewN ?_ _|refine blk_drew ?_|refine blk_alloc ?_ _));exact BK197.out) hg (Kd.R_ne HO_5.out BK197.out (by decide)))
              have n5_:=Aside0.mk (hb)
              have n6_:=Aside0.mk (ho)
              clear HO_6
              clear HO_7
              clear HO_19
              clear BK185
              clear BK197
              clear HB
              clear HO_5
              have HO_6:=n0_
              have HO_7:=n1_
              have HO_19:=n2_
              have BK185:=n3_
              have BK197:=n4_
              have HB:=n5_
              have HO202:=n6_
              clear n0_ n1_ n2_ n3_ n4_ n5_ n6_
              clear ho hb hg hat
              refine hK.out _ _ ?_
              clear hK K
              refine norm_ (a':=?_) ?_ ?_
              rotate_left
              ·
               show Act.put _ (some 47) _=_
               simp only [Act.put,List.setIfInBounds_toArray,List.set_cons_zero,List.set_cons_succ,i64_w,i32_w]
               rfl
              refine pure_ (i:=14) (N:=some 5) (v:=?_) (a':=?_) #[true,true,true,true,true,true,true,true,true,true,true,true,true,true,true] rfl rfl (any_of HT_.out (by kernel_rfl)) (fun _ _ _ h=>h) (Or.inl ⟨by rfl,?_⟩) ?_ ?_
              rotate_left
              ·
               intro w'
               go_simp
               with_reducible rfl
              rotate_left
              ·
               simp only [Act.put,List.setIfInBounds_toArray,List.set_cons_zero,List.set_cons_succ,i64_w,i32_w]
               rfl
              refine done_ (done_of HT_.out (by kernel_rfl)) ?_
              try go_wp2
              go_roundg k2
              case measure=>have:=HK1.out;have:=HK2.out;omega
              case rel=>exact ⟨(y200),(wrap64 (x31_2+1)),(by first|rfl|(simp;done)|(simp [*];done)),H',⟨by have:=HK1.out;have:=HK2.out;omega⟩,⟨by (with_reducible repeat (first|apply Kd.R_alloc|apply Kd.R_drewN|apply Kd.R_drew));exact HO202.out⟩,⟨by (with_reducible repeat (first|apply Kd.R_alloc|apply Kd.R_drewN|apply Kd.R_drew));exact HO_6.out⟩,⟨by (with_reducible repeat (first|apply Kd.R_alloc|apply Kd.R_drewN|apply Kd.R_drew));exact HO_7.out⟩,⟨by (with_reducible repeat (first|apply Kd.R_alloc|apply Kd.R_drewN|apply Kd.R_drew));exact HO_19.out⟩,⟨by (with_reducible repeat (first|refine blk_drewN ?_ _|refine blk_drew ?_|refine blk_alloc ?_ _));exact BK185.out⟩,⟨by (with_reducible repeat (first|refine blk_drewN ?_ _|refine blk_drew ?_|refine blk_alloc ?_ _));exact BK197.out⟩,⟨by repeat (first|(with_reducible first|exact HB.out|apply below_alloc|apply pw_below_drewN|apply below_drew1|refine below_set ?_ GE185.out|refine below_set ?_ GE197.out)|exact HB.out)⟩⟩
             ·
              rw [if_neg c24] at H
              exact absurd H (by simp)
            ·
             rw [if_neg c22] at H
             exact absurd H (by simp)
           ·
            rw [if_neg c21] at H
            exact absurd H (by simp)
          ·
           rw [if_neg c20] at H
           have c20b0:decide (x31_2 < ((rd_T40 t186 (rd t192 x21_1)).f4))=false:=decide_eq_false c20
           clear c20
           have H':=Aside0.mk H
           clear H
           go_wp2
           go_roundg k2
           case measure=>have:=HK1.out;have:=HK2.out;omega
           case rel=>exact ⟨(x5_2),(wrap64 (x21_1+1)),(by first|rfl|(simp;done)|(simp [*];done)),H',⟨by have:=HK1.out;have:=HK2.out;omega⟩,⟨by (with_reducible repeat (first|apply Kd.R_alloc|apply Kd.R_drewN|apply Kd.R_drew));exact HO_5.out⟩,⟨by (with_reducible repeat (first|apply Kd.R_alloc|apply Kd.R_drewN|apply Kd.R_drew));exact Kd.R_mono HO_6.out (fun _ hk=>trivial)⟩,⟨by (with_reducible repeat (first|apply Kd.R_alloc|apply Kd.R_drewN|apply Kd.R_drew));exact HO_7.out⟩,⟨by (with_reducible repeat (first|apply Kd.R_alloc|apply Kd.R_drewN|apply Kd.R_drew));exact HO_19.out⟩,⟨by (with_reducible repeat (first|refine blk_drewN ?_ _|refine blk_drew ?_|refine blk_alloc ?_ _));exact BK185.out⟩,⟨by repeat (first|(with_reducible first|exact HB.out|apply below_alloc|apply pw_below_drewN|apply below_drew1|refine below_set ?_ GE185.out|refine below_set ?_ GE197.out)|exact HB.out)⟩⟩
       ·
        rw [if_neg c15] at H
        exact absurd H (by simp)
      ·
       rw [if_neg c14] at H
       exact absurd H (by simp)
     ·
      rw [if_neg c13] at H
      exact absurd H (by simp)
    ·
     rw [if_neg c12] at H
     exact absurd H (by simp)
   ·
    rw [if_neg c11] at H
    have c11b0:decide (x21_1 < (t192.length:Int))=false:=decide_eq_false c11
    clear c11
    by_cases c28:a0_4=1
    ·
     rw [if_pos c28] at H
     have c28b0:(a0_4==1)=true:=beq_iff_eq.mpr c28
     have c28b1:(a0_4 !=1)=false:=bne_eq_false_iff_eq.mpr c28
     clear c28
     by_cases c29:a1=1
     ·
      rw [if_pos c29] at H
      have c29b0:(a1==1)=true:=beq_iff_eq.mpr c29
      have c29b1:(a1 !=1)=false:=bne_eq_false_iff_eq.mpr c29
      clear c29
      obtain ⟨y204,hy204⟩: ∃ y_:List (S42),y_=(([(⟨3,0,0,0,0,0⟩:S42)]:List (S42))):=⟨_,rfl⟩
      replace H:((api_Slot_35.f x5_1 0 y204).bind fun t207=>(some t207))=some r:=by first|(rw [hy204];with_reducible exact H)|(have H2_:=(Option.bind_some _ _).symm.trans H;rw [hy204];with_reducible exact H2_)|(have H2_:=(Option.bind_some _ _).symm.trans H;with_reducible exact H2_)|with_reducible exact H|(rw [hy204];exact H)|exact H
      have Ny204:=Aside0.mk hy204
      clear hy204
      replace H:=Option.bind_eq_some_iff.mp H
      obtain ⟨t207,A300,H⟩:=H
      replace H:(some t207)=some r:=H
      have A30:=Aside0.mk A300
      clear A300
      obtain rfl:=Option.some.inj H
      go_wp2_with (first|((with_reducible refine gate_dst (N:=12) rfl ?_);refine box_event ?hg (N:=12) ?hd (cs:= #[.int .i64 0,.int .i64 0,.int .i64 0,.int .i64 0,.int .i64 0,.int .i64 0]) (t:=42) ?hr ?_;(case hd=>rfl);(case hg=>rfl);(case hr=>first|(go_simp;done)|(go_simp;rfl));intro gb203 hg w31 hbox hb;have n0_:=Aside0.mk (Kd.R_below (Kd.R_elderB (by (with_reducible repeat (first|apply Kd.R_alloc|apply Kd.R_drewN|apply Kd.R_drew));exact HO_5.out) gb203 (Nat.le_of_eq hg.symm)) hb);have n1_:=Aside0.mk (Kd.R_below (by (with_reducible repeat (first|apply Kd.R_alloc|apply Kd.R_drewN|apply Kd.R_drew));exact HO_6.out) hb);have n2_:=Aside0.mk (Kd.R_below (by (with_reducible repeat (first|apply Kd.R_alloc|apply Kd.R_drewN|apply Kd.R_drew));exact HO_7.out) hb);have n3_:=Aside0.mk (Kd.R_below (by (with_reducible repeat (first|apply Kd.R_alloc|apply Kd.R_drewN|apply Kd.R_drew));exact HO_19.out) hb);have n4_:=Aside0.mk (blk_below (g:=gb185) (o:= .cells #[.int .i64 a0_0,.int .i64 a0_1,.int .i64 a0_2,.int .i64 a0_3,.int .i64 a0_4,.slice A0_5 l0_5.length c0_5,.slice A0_6 l0_6.length c0_6,.int .i64 a0_7] 50 (0,0)) (by (with_reducible repeat (first|refine blk_drewN ?_ _|refine blk_drew ?_|refine blk_alloc ?_ _));exact BK185.out) hb);have n5_:=Aside0.mk (below_step (by repeat (first|(with_reducible first|exact HB.out|apply below_alloc|apply pw_below_drewN|apply below_drew1|refine below_set ?_ GE185.out)|exact HB.out)) hb);have n6_:=Aside0.mk (hbox);have n7_:=Aside0.mk ((by rw [hg];exact (below_size (by repeat (first|(with_reducible first|exact HB.out|apply below_alloc|apply pw_below_drewN|apply below_drew1|refine below_set ?_ GE185.out)|exact HB.out))):w.heap.size≤gb203));have n8_:=Aside0.mk ((by rw [hg];exact (below_size (by repeat (first|(with_reducible first|exact HB.out|apply below_alloc|apply pw_below_drewN|apply below_drew1|refine below_set ?_ GE185.out)|exact HB.out))):w.heap.size≤gb203));have n9_:=Aside0.mk ((by rw [hg];exact Nat.ne_of_lt (blk_lt (g:=gb185) (o:= .cells #[.int .i64 a0_0,.int .i64 a0_1,.int .i64 a0_2,.int .i64 a0_3,.int .i64 a0_4,.slice A0_5 l0_5.length c0_5,.slice A0_6 l0_6.length c0_6,.int .i64 a0_7] 50 (0,0)) (by (with_reducible repeat (first|refine blk_drewN ?_ _|refine blk_drew ?_|refine blk_alloc ?_ _));exact BK185.out)):gb185≠gb203));have n10_:=Aside0.mk ((by rw [hg];exact Nat.ne_of_gt (blk_lt (g:=gb185) (o:= .cells #[.int .i64 a0_0,.int .i64 a0_1,.int .i64 a0_2,.int .i64 a0_3,.int .i64 a0_4,.slice A0_5 l0_5.length c0_5,.slice A0_6 l0_6.length c0_6,.int .i64 a0_7] 50 (0,0)) (by (with_reducible repeat (first|refine blk_drewN ?_ _|refine blk_drew ?_|refine blk_alloc ?_ _));exact BK185.out)):gb203≠gb185));clear HO_5;clear HO_6;clear HO_7;clear HO_19;clear BK185;clear HB;have HO_5:=n0_;have HO_6:=n1_;have HO_7:=n2_;have HO_19:=n3_;have BK185:=n4_;have HB:=n5_;have BK203:=n6_;have GW203:=n7_;have GE203:=n8_;have NB185_203:=n9_;have NB203_185:=n10_;clear n0_ n1_ n2_ n3_ n4_ n5_ n6_ n7_ n8_ n9_ n10_;clear hb hbox hg;have hnb32:=NB203_185.out;have hnc32:=NB185_203.out;have hcz33_0:w31.cell? ⟨gb203,0,none⟩=some (.int .i64 0):=(blk_cell BK203.out 0).trans rfl;have hcz33_1:w31.cell? ⟨gb203,1,none⟩=some (.int .i64 0):=(blk_cell BK203.out 1).trans rfl;have hcz33_2:w31.cell? ⟨gb203,2,none⟩=some (.int .i64 0):=(blk_cell BK203.out 2).trans rfl;have hcz33_3:w31.cell? ⟨gb203,3,none⟩=some (.int .i64 0):=(blk_cell BK203.out 3).trans rfl;have hcz33_4:w31.cell? ⟨gb203,4,none⟩=some (.int .i64 0):=(blk_cell BK203.out 4).trans rfl;have hcz33_5:w31.cell? ⟨gb203,5,none⟩=some (.int .i64 0):=(blk_cell BK203.out 5).trans rfl;have hfz33_0:=blk_frozen BK203.out 0;have hfz33_1:=blk_frozen BK203.out 1;have hfz33_2:=blk_frozen BK203.out 2;have hfz33_3:=blk_frozen BK203.out 3;have hfz33_4:=blk_frozen BK203.out 4;have hfz33_5:=blk_frozen BK203.out 5;have hcz34_0:w31.cell? ⟨gb185,0,none⟩=some (.int .i64 a0_0):=(blk_cell BK185.out 0).trans rfl;have hcz34_1:w31.cell? ⟨gb185,1,none⟩=some (.int .i64 a0_1):=(blk_cell BK185.out 1).trans rfl;have hcz34_2:w31.cell? ⟨gb185,2,none⟩=some (.int .i64 a0_2):=(blk_cell BK185.out 2).trans rfl;have hcz34_3:w31.cell? ⟨gb185,3,none⟩=some (.int .i64 a0_3):=(blk_cell BK185.out 3).trans rfl;have hcz34_4:w31.cell? ⟨gb185,4,none⟩=some (.int .i64 a0_4):=(blk_cell BK185.out 4).trans rfl;have hcz34_5:w31.cell? ⟨gb185,5,none⟩=some (.slice A0_5 l0_5.length c0_5):=(blk_cell BK185.out 5).trans rfl;have hcz34_6:w31.cell? ⟨gb185,6,none⟩=some (.slice A0_6 l0_6.length c0_6):=(blk_cell BK185.out 6).trans rfl;have hcz34_7:w31.cell? ⟨gb185,7,none⟩=some (.int .i64 a0_7):=(blk_cell BK185.out 7).trans rfl;have hfz34_0:=blk_frozen BK185.out 0;have hfz34_1:=blk_frozen BK185.out 1;have hfz34_2:=blk_frozen BK185.out 2;have hfz34_3:=blk_frozen BK185.out 3;have hfz34_4:=blk_frozen BK185.out 4;have hfz34_5:=blk_frozen BK185.out 5;have hfz34_6:=blk_frozen BK185.out 6;have hfz34_7:=blk_frozen BK185.out 7)|((with_reducible refine gate_dst (N:=65) rfl ?_);refine Kd.R_lit k42 _ 42 ?hg (N:=65) ?hd (xs:=([(⟨3,0,0,0,0,0⟩:S42)]:List (S42))) (inner:=[.int .i64 3,.int .i64 0,.int .i64 0,.int .i64 0,.int .i64 0,.int .i64 0]) (ok:=fun _=>True) (okp:=fun _=>True) ?hr ?hp (fun _ hk=>hk) trivial (Below.refl _ _) (Nat.le_refl _) (by simp) ?_;(case hd=>rfl);(case hg=>rfl);(case hr=>first|(go_simp;done)|(go_simp;rfl));(case hp=>exact (Reps.c6 (show Kd.M k42 _ _ _ (⟨3,0,0,0,0,0⟩:S42) [.int .i64 3,.int .i64 0,.int .i64 0,.int .i64 0,.int .i64 0,.int .i64 0] from (k42_mkM _ _ _ (⟨3,0,0,0,0,0⟩:S42))) (Reps.none _ _)));intro v205 w35 ho36 hb hg_ hnew_;clear hg_ hnew_;(first|rw [← Ny204.out] at ho36|(simp only [Int.reduceToNat] at ho36;rw [← Ny204.out] at ho36));have n0_:=Aside0.mk (Kd.R_elder' (by (with_reducible repeat (first|apply Kd.R_alloc|apply Kd.R_drewN|apply Kd.R_drew));exact (Kd.R_mono (Kd.R_far (p:=⟨gb203,5,none⟩) (Kd.R_far (p:=⟨gb203,4,none⟩) (Kd.R_far (p:=⟨gb203,3,none⟩) (Kd.R_far (p:=⟨gb203,2,none⟩) (Kd.R_far (p:=⟨gb203,1,none⟩) (Kd.R_far (p:=⟨gb203,0,none⟩) (Kd.R_mono HO_5.out (fun k_ hk=>(⟨hk,hk.2⟩:_∧k_≠gb203))) (fun _ hk=>hk.2) (.int .i64 3)) (fun _ hk=>hk.2) (.int .i64 0)) (fun _ hk=>hk.2) (.int .i64 0)) (fun _ hk=>hk.2) (.int .i64 0)) (fun _ hk=>hk.2) (.int .i64 0)) (fun _ hk=>hk.2) (.int .i64 0)) (fun _ h_=>h_.1))) (Kd.R_base ho36) hb);have n1_:=Aside0.mk (Kd.R_below (by (with_reducible repeat (first|apply Kd.R_alloc|apply Kd.R_drewN|apply Kd.R_drew));exact (Kd.R_mono (Kd.R_far (p:=⟨gb203,5,none⟩) (Kd.R_far (p:=⟨gb203,4,none⟩) (Kd.R_far (p:=⟨gb203,3,none⟩) (Kd.R_far (p:=⟨gb203,2,none⟩) (Kd.R_far (p:=⟨gb203,1,none⟩) (Kd.R_far (p:=⟨gb203,0,none⟩) (Kd.R_types HO_6.out BK203.out (by decide)) (fun _ hk=>hk.2) (.int .i64 3)) (fun _ hk=>hk.2) (.int .i64 0)) (fun _ hk=>hk.2) (.int .i64 0)) (fun _ hk=>hk.2) (.int .i64 0)) (fun _ hk=>hk.2) (.int .i64 0)) (fun _ hk=>hk.2) (.int .i64 0)) (fun _ h_=>h_.1))) hb);have n2_:=Aside0.mk (Kd.R_below (by (with_reducible repeat (first|apply Kd.R_alloc|apply Kd.R_drewN|apply Kd.R_drew));exact (Kd.R_mono (Kd.R_far (p:=⟨gb203,5,none⟩) (Kd.R_far (p:=⟨gb203,4,none⟩) (Kd.R_far (p:=⟨gb203,3,none⟩) (Kd.R_far (p:=⟨gb203,2,none⟩) (Kd.R_far (p:=⟨gb203,1,none⟩) (Kd.R_far (p:=⟨gb203,0,none⟩) (Kd.R_types HO_7.out BK203.out (by decide)) (fun _ hk=>hk.2) (.int .i64 3)) (fun _ hk=>hk.2) (.int .i64 0)) (fun _ hk=>hk.2) (.int .i64 0)) (fun _ hk=>hk.2) (.int .i64 0)) (fun _ hk=>hk.2) (.int .i64 0)) (fun _ hk=>hk.2) (.int .i64 0)) (fun _ h_=>h_.1))) hb);have n3_:=Aside0.mk (Kd.R_below (by (with_reducible repeat (first|apply Kd.R_alloc|apply Kd.R_drewN|apply Kd.R_drew));exact (Kd.R_mono (Kd.R_far (p:=⟨gb203,5,none⟩) (Kd.R_far (p:=⟨gb203,4,none⟩) (Kd.R_far (p:=⟨gb203,3,none⟩) (Kd.R_far (p:=⟨gb203,2,none⟩) (Kd.R_far (p:=⟨gb203,1,none⟩) (Kd.R_far (p:=⟨gb203,0,none⟩) (Kd.R_types HO_19.out BK203.out (by decide)) (fun _ hk=>hk.2) (.int .i64 3)) (fun _ hk=>hk.2) (.int .i64 0)) (fun _ hk=>hk.2) (.int .i64 0)) (fun _ hk=>hk.2) (.int .i64 0)) (fun _ hk=>hk.2) (.int .i64 0)) (fun _ hk=>hk.2) (.int .i64 0)) (fun _ h_=>h_.1))) hb);have n4_:=Aside0.mk (Kd.R_lower (Kd.R_newB (Kd.R_new' ho36 (Kd.R_lt (by (with_reducible repeat (first|apply Kd.R_alloc|apply Kd.R_drewN|apply Kd.R_drew));exact (Kd.R_mono (Kd.R_far (p:=⟨gb203,5,none⟩) (Kd.R_far (p:=⟨gb203,4,none⟩) (Kd.R_far (p:=⟨gb203,3,none⟩) (Kd.R_far (p:=⟨gb203,2,none⟩) (Kd.R_far (p:=⟨gb203,1,none⟩) (Kd.R_far (p:=⟨gb203,0,none⟩) (Kd.R_mono HO_5.out (fun k_ hk=>(⟨hk,hk.2⟩:_∧k_≠gb203))) (fun _ hk=>hk.2) (.int .i64 3)) (fun _ hk=>hk.2) (.int .i64 0)) (fun _ hk=>hk.2) (.int .i64 0)) (fun _ hk=>hk.2) (.int .i64 0)) (fun _ hk=>hk.2) (.int .i64 0)) (fun _ hk=>hk.2) (.int .i64 0)) (fun _ h_=>h_.1))))) (g:=gb203) (o:= .cells #[.int .i64 3,.int .i64 0,.int .i64 0,.int .i64 0,.int .i64 0,.int .i64 0] 42 (0,0)) (by (with_reducible repeat (first|refine blk_drewN ?_ _|refine blk_drew ?_|refine blk_alloc ?_ _));refine blk_put (cs:= #[.int .i64 3,.int .i64 0,.int .i64 0,.int .i64 0,.int .i64 0,.int .i64 0]) ?_ 5 _ rfl;(with_reducible repeat (first|refine blk_drewN ?_ _|refine blk_drew ?_|refine blk_alloc ?_ _));refine blk_put (cs:= #[.int .i64 3,.int .i64 0,.int .i64 0,.int .i64 0,.int .i64 0,.int .i64 0]) ?_ 4 _ rfl;(with_reducible repeat (first|refine blk_drewN ?_ _|refine blk_drew ?_|refine blk_alloc ?_ _));refine blk_put (cs:= #[.int .i64 3,.int .i64 0,.int .i64 0,.int .i64 0,.int .i64 0,.int .i64 0]) ?_ 3 _ rfl;(with_reducible repeat (first|refine blk_drewN ?_ _|refine blk_drew ?_|refine blk_alloc ?_ _));refine blk_put (cs:= #[.int .i64 3,.int .i64 0,.int .i64 0,.int .i64 0,.int .i64 0,.int .i64 0]) ?_ 2 _ rfl;(with_reducible repeat (first|refine blk_drewN ?_ _|refine blk_drew ?_|refine blk_alloc ?_ _));refine blk_put (cs:= #[.int .i64 3,.int .i64 0,.int .i64 0,.int .i64 0,.int .i64 0,.int .i64 0]) ?_ 1 _ rfl;(with_reducible repeat (first|refine blk_drewN ?_ _|refine blk_drew ?_|refine blk_alloc ?_ _));refine blk_put (cs:= #[.int .i64 0,.int .i64 0,.int .i64 0,.int .i64 0,.int .i64 0,.int .i64 0]) ?_ 0 _ rfl;(with_reducible repeat (first|refine blk_drewN ?_ _|refine blk_drew ?_|refine blk_alloc ?_ _));exact BK203.out)) (below_size (by repeat (first|(with_reducible first|exact HB.out|apply below_alloc|apply pw_below_drewN|apply below_drew1|refine below_set ?_ GE185.out|refine below_set ?_ GE203.out)|exact HB.out))));have n5_:=Aside0.mk (blk_below (g:=gb185) (o:= .cells #[.int .i64 a0_0,.int .i64 a0_1,.int .i64 a0_2,.int .i64 a0_3,.int .i64 a0_4,.slice A0_5 l0_5.length c0_5,.slice A0_6 l0_6.length c0_6,.int .i64 a0_7] 50 (0,0)) (by (with_reducible repeat (first|refine blk_drewN ?_ _|refine blk_drew ?_|refine blk_alloc ?_ _));refine blk_far ?_ NB185_203.out _;(with_reducible repeat (first|refine blk_drewN ?_ _|refine blk_drew ?_|refine blk_alloc ?_ _));refine blk_far ?_ NB185_203.out _;(with_reducible repeat (first|refine blk_drewN ?_ _|refine blk_drew ?_|refine blk_alloc ?_ _));refine blk_far ?_ NB185_203.out _;(with_reducible repeat (first|refine blk_drewN ?_ _|refine blk_drew ?_|refine blk_alloc ?_ _));refine blk_far ?_ NB185_203.out _;(with_reducible repeat (first|refine blk_drewN ?_ _|refine blk_drew ?_|refine blk_alloc ?_ _));refine blk_far ?_ NB185_203.out _;(with_reducible repeat (first|refine blk_drewN ?_ _|refine blk_drew ?_|refine blk_alloc ?_ _));refine blk_far ?_ NB185_203.out _;(with_reducible repeat (first|refine blk_drewN ?_ _|refine blk_drew ?_|refine blk_alloc ?_ _));exact BK185.out) hb);have n6_:=Aside0.mk (blk_below (g:=gb203) (o:= .cells #[.int .i64 3,.int .i64 0,.int .i64 0,.int .i64 0,.int .i64 0,.int .i64 0] 42 (0,0)) (by (with_reducible repeat (first|refine blk_drewN ?_ _|refine blk_drew ?_|refine blk_alloc ?_ _));refine blk_put (cs:= #[.int .i64 3,.int .i64 0,.int .i64 0,.int .i64 0,.int .i64 0,.int .i64 0]) ?_ 5 _ rfl;(with_reducible repeat (first|refine blk_drewN ?_ _|refine blk_drew ?_|refine blk_alloc ?_ _));refine blk_put (cs:= #[.int .i64 3,.int .i64 0,.int .i64 0,.int .i64 0,.int .i64 0,.int .i64 0]) ?_ 4 _ rfl;(with_reducible repeat (first|refine blk_drewN ?_ _|refine blk_drew ?_|refine blk_alloc ?_ _));refine blk_put (cs:= #[.int .i64 3,.int .i64 0,.int .i64 0,.int .i64 0,.int .i64 0,.int .i64 0]) ?_ 3 _ rfl;(with_reducible repeat (first|refine blk_drewN ?_ _|refine blk_drew ?_|refine blk_alloc ?_ _));refine blk_put (cs:= #[.int .i64 3,.int .i64 0,.int .i64 0,.int .i64 0,.int .i64 0,.int .i64 0]) ?_ 2 _ rfl;(with_reducible repeat (first|refine blk_drewN ?_ _|refine blk_drew ?_|refine blk_alloc ?_ _));refine blk_put (cs:= #[.int .i64 3,.int .i64 0,.int .i64 0,.int .i64 0,.int .i64 0,.int .i64 0]) ?_ 1 _ rfl;(with_reducible repeat (first|refine blk_drewN ?_ _|refine blk_drew ?_|refine blk_alloc ?_ _));refine blk_put (cs:= #[.int .i64 0,.int .i64 0,.int .i64 0,.int .i64 0,.int .i64 0,.int .i64 0]) ?_ 0 _ rfl;(with_reducible repeat (first|refine blk_drewN ?_ _|refine blk_drew ?_|refine blk_alloc ?_ _));exact BK203.out) hb);have n7_:=Aside0.mk (below_step (by repeat (first|(with_reducible first|exact HB.out|apply below_alloc|apply pw_below_drewN|apply below_drew1|refine below_set ?_ GE185.out|refine below_set ?_ GE203.out)|exact HB.out)) hb);clear HO_5;clear HO_6;clear HO_7;clear HO_19;clear BK185;clear BK203;clear HB;have HO_5:=n0_;have HO_6:=n1_;have HO_7:=n2_;have HO_19:=n3_;have HO206:=n4_;have BK185:=n5_;have BK203:=n6_;have HB:=n7_;clear n0_ n1_ n2_ n3_ n4_ n5_ n6_ n7_;clear hb ho36;obtain ⟨Ao37,co37,eo37⟩:=Kd.R_slice HO_5.out;subst eo37;obtain ⟨Ao38,co38,eo38⟩:=Kd.R_slice HO206.out;subst eo38)|((with_reducible refine gate_callee (f:=35) rfl ?_);refine goesL_ (some 66) rfl rfl Try.func35 (by kernel_rfl) rfl #[.slice Ao37 x5_1.length co37,.int .i64 0,.slice Ao38 y204.length co38] rfl (by (try simp only [List.map_toArray,List.map_cons,List.map_nil]);first|done|rfl|(simp only [List.length_drop,List.length_take];rfl)) ?_;(with_reducible refine (api_Slot_35.calls (fun k_=>some k_=(.slice Ao37 x5_1.length co37:Value).ownBlock) (.slice Ao37 x5_1.length co37) x5_1 0 (fun k_=>some k_=(.slice Ao38 y204.length co38:Value).ownBlock) (.slice Ao38 y204.length co38) y204 t207 w _ ?side1 ?side2 ?side3 ?side4 ?side5 A30.out).mono ?_);(case side1=>repeat (first|(with_reducible first|exact HB.out|apply below_alloc|apply pw_below_drewN|apply below_drew1|refine below_set ?_ GE185.out|refine below_set ?_ GE203.out)|exact HB.out));(case side2=>exact Kd.R_tight rfl HO_5.out);(case side3=>exact fun k_ e_=>(HO_5.out.1 k_ e_.symm).2);(case side4=>exact Kd.R_tight rfl HO206.out);(case side5=>exact fun k_ e_=>(HO206.out.1 k_ e_.symm).1.2);rintro e w39 ⟨v208,rfl,ho0,hb,hkp⟩;refine ⟨_,rfl,?_⟩;have n0_:=Aside0.mk (Kd.R_mono (ok':=fun k_=>True) (Kd.R_keptB ((Kd.R_apart' (Kd.R_apart' HO_6.out (Kd.R_typed HO_5.out) (by decide)) (Kd.R_typed HO206.out) (by decide))) hkp (fun k_ hk_ hs_=>Or.elim hs_ (fun e_=>(hk_.1.2) e_) (fun e_=>(hk_.2) e_))) (fun k_ hk_=>trivial));have n1_:=Aside0.mk (Kd.R_mono (ok':=fun k_=>some k_≠(.slice Ao10 t192.length co10:Value).ownBlock) (Kd.R_keptB ((Kd.R_apart' (Kd.R_apart' HO_7.out (Kd.R_typed HO_5.out) (by decide)) (Kd.R_typed HO206.out) (by decide))) hkp (fun k_ hk_ hs_=>Or.elim hs_ (fun e_=>(hk_.1.2) e_) (fun e_=>(hk_.2) e_))) (fun k_ hk_=>hk_.1.1.1));have n2_:=Aside0.mk (Kd.R_mono (ok':=fun k_=>some k_≠(.slice Ao8 t189.length co8:Value).ownBlock) (Kd.R_keptB ((Kd.R_apart' (Kd.R_apart' HO_19.out (Kd.R_typed HO_5.out) (by decide)) (Kd.R_typed HO206.out) (by decide))) hkp (fun k_ hk_ hs_=>Or.elim hs_ (fun e_=>(hk_.1.2) e_) (fun e_=>(hk_.2) e_))) (fun k_ hk_=>hk_.1.1.1));have n3_:=Aside0.mk (blk_kept (by (with_reducible repeat (first|refine blk_drewN ?_ _|refine blk_drew ?_|refine blk_alloc ?_ _));exact BK185.out) hkp (fun hs_=>Or.elim hs_ (fun e_=>(fun e_=>(Kd.R_ne HO_5.out BK185.out (by decide)) e_) e_) (fun e_=>(fun e_=>(Kd.R_ne HO206.out BK185.out (by decide)) e_) e_)));have n4_:=Aside0.mk (blk_kept (by (with_reducible repeat (first|refine blk_drewN ?_ _|refine blk_drew ?_|refine blk_alloc ?_ _));exact BK203.out) hkp (fun hs_=>Or.elim hs_ (fun e_=>(fun e_=>(Kd.R_away HO_5.out (fun _ hk=>hk.1.2)) e_) e_) (fun e_=>(fun e_=>(Kd.R_away HO206.out (fun _ hk=>hk.2)) e_) e_)));have n5_:=Aside0.mk (Kd.R_mono (ok':=fun k_=>k_≠gb203) ho0 (fun k_ hk_=>Or.elim hk_ (fun hs_=>Or.elim hs_ (fun hs_=>fun e_=>(Kd.R_away HO_5.out (fun _ hk=>hk.1.2)) (by rw [← e_];exact hs_)) (fun hs_=>fun e_=>(Kd.R_away HO206.out (fun _ hk=>hk.2)) (by rw [← e_];exact hs_))) (fun hn_=>(Kd.freshB (g:=gb203) (o:= .cells #[.int .i64 3,.int .i64 0,.int .i64 0,.int .i64 0,.int .i64 0,.int .i64 0] 42 (0,0)) (by (with_reducible repeat (first|refine blk_drewN ?_ _|refine blk_drew ?_|refine blk_alloc ?_ _));exact BK203.out) k_ hn_))));have n6_:=Aside0.mk (hb);clear HO_6;clear HO_7;clear HO_19;clear BK185;clear BK203;clear HB;clear HO206;clear HO_5;have HO_6:=n0_;have HO_7:=n1_;have HO_19:=n2_;have BK185:=n3_;have BK203:=n4_;have HO209:=n5_;have HB:=n6_;clear n0_ n1_ n2_ n3_ n4_ n5_ n6_;(try clear hb);(try clear hkp);(try clear ho0)))
      go_ret
      exact ⟨_,by first|rfl|(simp [errW_none,errW_some] <;> rfl)|(simp [*,errW_none,errW_some] <;> rfl),by (with_reducible repeat (first|apply Kd.R_alloc|apply Kd.R_drewN|apply Kd.R_drew));exact Kd.R_mono HO209.out (fun _ hk=>trivial),by repeat (first|(with_reducible first|exact HB.out|apply below_alloc|apply pw_below_drewN|apply below_drew1|refine below_set ?_ GE185.out|refine below_set ?_ GE203.out)|exact HB.out)⟩
     ·
      rw [if_neg c29] at H
      have c29b0:(a1==1)=false:=beq_eq_false_iff_ne.mpr c29
      have c29b1:(a1 !=1)=true:=bne_iff_ne.mpr c29
      by_cases c40:x5_1.length < 2932031007402
      ·
       rw [if_pos c40] at H
       have LMc40:=Aside0.mk c40
       clear c40
       obtain ⟨y210,hy210⟩: ∃ y_:List (S42),y_=(x5_1++[(⟨3,0,0,0,0,0⟩:S42)]):=⟨_,rfl⟩
       replace H:(some y210)=some r:=by first|(rw [hy210];with_reducible exact H)|(have H2_:=(Option.bind_some _ _).symm.trans H;rw [hy210];with_reducible exact H2_)|(have H2_:=(Option.bind_some _ _).symm.trans H;with_reducible exact H2_)|with_reducible exact H|(rw [hy210];exact H)|exact H
       have Ny210:=Aside0.mk hy210
       clear hy210
       obtain rfl:=Option.some.inj H
       go_wp2_with (first|((with_reducible refine gate_dst (N:=12) rfl ?_);refine box_event ?hg (N:=12) ?hd (cs:= #[.int .i64 0,.int .i64 0,.int .i64 0,.int .i64 0,.int .i64 0,.int .i64 0]) (t:=42) ?hr ?_;(case hd=>rfl);(case hg=>rfl);(case hr=>first|(go_simp;done)|(go_simp;rfl));intro gb203 hg w41 hbox hb;have n0_:=Aside0.mk (Kd.R_below (Kd.R_elderB (by (with_reducible repeat (first|apply Kd.R_alloc|apply Kd.R_drewN|apply Kd.R_drew));exact HO_5.out) gb203 (Nat.le_of_eq hg.symm)) hb);have n1_:=Aside0.mk (Kd.R_below (by (with_reducible repeat (first|apply Kd.R_alloc|apply Kd.R_drewN|apply Kd.R_drew));exact HO_6.out) hb);have n2_:=Aside0.mk (Kd.R_below (by (with_reducible repeat (first|apply Kd.R_alloc|apply Kd.R_drewN|apply Kd.R_drew));exact HO_7.out) hb);have n3_:=Aside0.mk (Kd.R_below (by (with_reducible repeat (first|apply Kd.R_alloc|apply Kd.R_drewN|apply Kd.R_drew));exact HO_19.out) hb);have n4_:=Aside0.mk (blk_below (g:=gb185) (o:= .cells #[.int .i64 a0_0,.int .i64 a0_1,.int .i64 a0_2,.int .i64 a0_3,.int .i64 a0_4,.slice A0_5 l0_5.length c0_5,.slice A0_6 l0_6.length c0_6,.int .i64 a0_7] 50 (0,0)) (by (with_reducible repeat (first|refine blk_drewN ?_ _|refine blk_drew ?_|refine blk_alloc ?_ _));exact BK185.out) hb);have n5_:=Aside0.mk (below_step (by repeat (first|(with_reducible first|exact HB.out|apply below_alloc|apply pw_below_drewN|apply below_drew1|refine below_set ?_ GE185.out)|exact HB.out)) hb);have n6_:=Aside0.mk (hbox);have n7_:=Aside0.mk ((by rw [hg];exact (below_size (by repeat (first|(with_reducible first|exact HB.out|apply below_alloc|apply pw_below_drewN|apply below_drew1|refine below_set ?_ GE185.out)|exact HB.out))):w.heap.size≤gb203));have n8_:=Aside0.mk ((by rw [hg];exact (below_size (by repeat (first|(with_reducible first|exact HB.out|apply below_alloc|apply pw_below_drewN|apply below_drew1|refine below_set ?_ GE185.out)|exact HB.out))):w.heap.size≤gb203));have n9_:=Aside0.mk ((by rw [hg];exact Nat.ne_of_lt (blk_lt (g:=gb185) (o:= .cells #[.int .i64 a0_0,.int .i64 a0_1,.int .i64 a0_2,.int .i64 a0_3,.int .i64 a0_4,.slice A0_5 l0_5.length c0_5,.slice A0_6 l0_6.length c0_6,.int .i64 a0_7] 50 (0,0)) (by (with_reducible repeat (first|refine blk_drewN ?_ _|refine blk_drew ?_|refine blk_alloc ?_ _));exact BK185.out)):gb185≠gb203));have n10_:=Aside0.mk ((by rw [hg];exact Nat.ne_of_gt (blk_lt (g:=gb185) (o:= .cells #[.int .i64 a0_0,.int .i64 a0_1,.int .i64 a0_2,.int .i64 a0_3,.int .i64 a0_4,.slice A0_5 l0_5.length c0_5,.slice A0_6 l0_6.length c0_6,.int .i64 a0_7] 50 (0,0)) (by (with_reducible repeat (first|refine blk_drewN ?_ _|refine blk_drew ?_|refine blk_alloc ?_ _));exact BK185.out)):gb203≠gb185));clear HO_5;clear HO_6;clear HO_7;clear HO_19;clear BK185;clear HB;have HO_5:=n0_;have HO_6:=n1_;have HO_7:=n2_;have HO_19:=n3_;have BK185:=n4_;have HB:=n5_;have BK203:=n6_;have GW203:=n7_;have GE203:=n8_;have NB185_203:=n9_;have NB203_185:=n10_;clear n0_ n1_ n2_ n3_ n4_ n5_ n6_ n7_ n8_ n9_ n10_;clear hb hbox hg;have hnb42:=NB203_185.out;have hnc42:=NB185_203.out;have hcz43_0:w41.cell? ⟨gb203,0,none⟩=some (.int .i64 0):=(blk_cell BK203.out 0).trans rfl;have hcz43_1:w41.cell? ⟨gb203,1,none⟩=some (.int .i64 0):=(blk_cell BK203.out 1).trans rfl;have hcz43_2:w41.cell? ⟨gb203,2,none⟩=some (.int .i64 0):=(blk_cell BK203.out 2).trans rfl;have hcz43_3:w41.cell? ⟨gb203,3,none⟩=some (.int .i64 0):=(blk_cell BK203.out 3).trans rfl;have hcz43_4:w41.cell? ⟨gb203,4,none⟩=some (.int .i64 0):=(blk_cell BK203.out 4).trans rfl;have hcz43_5:w41.cell? ⟨gb203,5,none⟩=some (.int .i64 0):=(blk_cell BK203.out 5).trans rfl;have hfz43_0:=blk_frozen BK203.out 0;have hfz43_1:=blk_frozen BK203.out 1;have hfz43_2:=blk_frozen BK203.out 2;have hfz43_3:=blk_frozen BK203.out 3;have hfz43_4:=blk_frozen BK203.out 4;have hfz43_5:=blk_frozen BK203.out 5;have hcz44_0:w41.cell? ⟨gb185,0,none⟩=some (.int .i64 a0_0):=(blk_cell BK185.out 0).trans rfl;have hcz44_1:w41.cell? ⟨gb185,1,none⟩=some (.int .i64 a0_1):=(blk_cell BK185.out 1).trans rfl;have hcz44_2:w41.cell? ⟨gb185,2,none⟩=some (.int .i64 a0_2):=(blk_cell BK185.out 2).trans rfl;have hcz44_3:w41.cell? ⟨gb185,3,none⟩=some (.int .i64 a0_3):=(blk_cell BK185.out 3).trans rfl;have hcz44_4:w41.cell? ⟨gb185,4,none⟩=some (.int .i64 a0_4):=(blk_cell BK185.out 4).trans rfl;have hcz44_5:w41.cell? ⟨gb185,5,none⟩=some (.slice A0_5 l0_5.length c0_5):=(blk_cell BK185.out 5).trans rfl;have hcz44_6:w41.cell? ⟨gb185,6,none⟩=some (.slice A0_6 l0_6.length c0_6):=(blk_cell BK185.out 6).trans rfl;have hcz44_7:w41.cell? ⟨gb185,7,none⟩=some (.int .i64 a0_7):=(blk_cell BK185.out 7).trans rfl;have hfz44_0:=blk_frozen BK185.out 0;have hfz44_1:=blk_frozen BK185.out 1;have hfz44_2:=blk_frozen BK185.out 2;have hfz44_3:=blk_frozen BK185.out 3;have hfz44_4:=blk_frozen BK185.out 4;have hfz44_5:=blk_frozen BK185.out 5;have hfz44_6:=blk_frozen BK185.out 6;have hfz44_7:=blk_frozen BK185.out 7)|((with_reducible refine gate_builtin (b:= .append) (xs:= #[.tmp 51,.tmp 53]) rfl ?_);at_builtin;refine Kd.R_append k42 (w0:=w) w.heap.size rfl (.tmp 51) (.tmp 53) 27 42 (.agg #[(.int .i64 0),(.int .i64 0),(.int .i64 0),(.int .i64 0),(.int .i64 0),(.int .i64 0)]) 48 rfl Try.underlying27 info42 rfl (by decide) (by omega) u5 x5_1 (⟨3,0,0,0,0,0⟩:S42) [.int .i64 3,.int .i64 0,.int .i64 0,.int .i64 0,.int .i64 0,.int .i64 0] (fun k_=>k_≠gb203) (fun _=>False) rfl (by first|(go_simp;done)|(go_simp;rfl)) ?aP (fun _ hk=>hk.elim) ?aF ?aO ?aB ?aS ?aL ?_;(case aP=>exact k42_mkM _ _ _ (⟨3,0,0,0,0,0⟩:S42));(case aB=>exact (by repeat (first|(with_reducible first|exact HB.out|apply below_alloc|apply pw_below_drewN|apply below_drew1|refine below_set ?_ GE185.out|refine below_set ?_ GE203.out)|exact HB.out)));(case aF=>exact (fun k_ hk=>Kd.freshB (g:=gb203) (o:= .cells #[.int .i64 3,.int .i64 0,.int .i64 0,.int .i64 0,.int .i64 0,.int .i64 0] 42 (0,0)) (by (with_reducible repeat (first|refine blk_drewN ?_ _|refine blk_drew ?_|refine blk_alloc ?_ _));refine blk_put (cs:= #[.int .i64 3,.int .i64 0,.int .i64 0,.int .i64 0,.int .i64 0,.int .i64 0]) ?_ 5 _ rfl;(with_reducible repeat (first|refine blk_drewN ?_ _|refine blk_drew ?_|refine blk_alloc ?_ _));refine blk_put (cs:= #[.int .i64 3,.int .i64 0,.int .i64 0,.int .i64 0,.int .i64 0,.int .i64 0]) ?_ 4 _ rfl;(with_reducible repeat (first|refine blk_drewN ?_ _|refine blk_drew ?_|refine blk_alloc ?_ _));refine blk_put (cs:= #[.int .i64 3,.int .i64 0,.int .i64 0,.int .i64 0,.int .i64 0,.int .i64 0]) ?_ 3 _ rfl;(with_reducible repeat (first|refine blk_drewN ?_ _|refine blk_drew ?_|refine blk_alloc ?_ _));refine blk_put (cs:= #[.int .i64 3,.int .i64 0,.int .i64 0,.int .i64 0,.int .i64 0,.int .i64 0]) ?_ 2 _ rfl;(with_reducible repeat (first|refine blk_drewN ?_ _|refine blk_drew ?_|refine blk_alloc ?_ _));refine blk_put (cs:= #[.int .i64 3,.int .i64 0,.int .i64 0,.int .i64 0,.int .i64 0,.int .i64 0]) ?_ 1 _ rfl;(with_reducible repeat (first|refine blk_drewN ?_ _|refine blk_drew ?_|refine blk_alloc ?_ _));refine blk_put (cs:= #[.int .i64 0,.int .i64 0,.int .i64 0,.int .i64 0,.int .i64 0,.int .i64 0]) ?_ 0 _ rfl;(with_reducible repeat (first|refine blk_drewN ?_ _|refine blk_drew ?_|refine blk_alloc ?_ _));exact BK203.out) k_ hk));(case aO=>exact (by (with_reducible repeat (first|apply Kd.R_alloc|apply Kd.R_drewN|apply Kd.R_drew));exact Kd.R_mono (Kd.R_far (p:=⟨gb203,5,none⟩) (Kd.R_far (p:=⟨gb203,4,none⟩) (Kd.R_far (p:=⟨gb203,3,none⟩) (Kd.R_far (p:=⟨gb203,2,none⟩) (Kd.R_far (p:=⟨gb203,1,none⟩) (Kd.R_far (p:=⟨gb203,0,none⟩) (Kd.R_mono HO_5.out (fun k_ hk=>(⟨hk,hk.2⟩:_∧k_≠gb203))) (fun _ hk=>hk.2) (.int .i64 3)) (fun _ hk=>hk.2) (.int .i64 0)) (fun _ hk=>hk.2) (.int .i64 0)) (fun _ hk=>hk.2) (.int .i64 0)) (fun _ hk=>hk.2) (.int .i64 0)) (fun _ hk=>hk.2) (.int .i64 0)) (fun _ hk=>hk.1.2)));(case aS=>exact (below_size (by repeat (first|(with_reducible first|exact HB.out|apply below_alloc|apply pw_below_drewN|apply below_drew1|refine below_set ?_ GE185.out|refine below_set ?_ GE203.out)|exact HB.out))));(case aL=>have:=LMc40.out;omega);intro v211 w45 ho hb hg hat;rw [← Ny210.out] at ho;have n0_:=Aside0.mk (Kd.R_over' (by (with_reducible repeat (first|apply Kd.R_alloc|apply Kd.R_drewN|apply Kd.R_drew));exact (Kd.R_mono (Kd.R_far (p:=⟨gb203,5,none⟩) (Kd.R_far (p:=⟨gb203,4,none⟩) (Kd.R_far (p:=⟨gb203,3,none⟩) (Kd.R_far (p:=⟨gb203,2,none⟩) (Kd.R_far (p:=⟨gb203,1,none⟩) (Kd.R_far (p:=⟨gb203,0,none⟩) (Kd.R_types HO_6.out BK203.out (by decide)) (fun _ hk=>hk.2) (.int .i64 3)) (fun _ hk=>hk.2) (.int .i64 0)) (fun _ hk=>hk.2) (.int .i64 0)) (fun _ hk=>hk.2) (.int .i64 0)) (fun _ hk=>hk.2) (.int .i64 0)) (fun _ hk=>hk.2) (.int .i64 0)) (fun _ h_=>h_.1))) (Kd.R_typed (by (with_reducible repeat (first|apply Kd.R_alloc|apply Kd.R_drewN|apply Kd.R_drew));exact (Kd.R_mono (Kd.R_far (p:=⟨gb203,5,none⟩) (Kd.R_far (p:=⟨gb203,4,none⟩) (Kd.R_far (p:=⟨gb203,3,none⟩) (Kd.R_far (p:=⟨gb203,2,none⟩) (Kd.R_far (p:=⟨gb203,1,none⟩) (Kd.R_far (p:=⟨gb203,0,none⟩) (Kd.R_mono HO_5.out (fun k_ hk=>(⟨hk,hk.2⟩:_∧k_≠gb203))) (fun _ hk=>hk.2) (.int .i64 3)) (fun _ hk=>hk.2) (.int .i64 0)) (fun _ hk=>hk.2) (.int .i64 0)) (fun _ hk=>hk.2) (.int .i64 0)) (fun _ hk=>hk.2) (.int .i64 0)) (fun _ hk=>hk.2) (.int .i64 0)) (fun _ h_=>h_.1)))) (by decide) hg);have n1_:=Aside0.mk (Kd.R_over' (by (with_reducible repeat (first|apply Kd.R_alloc|apply Kd.R_drewN|apply Kd.R_drew));exact (Kd.R_mono (Kd.R_far (p:=⟨gb203,5,none⟩) (Kd.R_far (p:=⟨gb203,4,none⟩) (Kd.R_far (p:=⟨gb203,3,none⟩) (Kd.R_far (p:=⟨gb203,2,none⟩) (Kd.R_far (p:=⟨gb203,1,none⟩) (Kd.R_far (p:=⟨gb203,0,none⟩) (Kd.R_types HO_7.out BK203.out (by decide)) (fun _ hk=>hk.2) (.int .i64 3)) (fun _ hk=>hk.2) (.int .i64 0)) (fun _ hk=>hk.2) (.int .i64 0)) (fun _ hk=>hk.2) (.int .i64 0)) (fun _ hk=>hk.2) (.int .i64 0)) (fun _ hk=>hk.2) (.int .i64 0)) (fun _ h_=>h_.1))) (Kd.R_typed (by (with_reducible repeat (first|apply Kd.R_alloc|apply Kd.R_drewN|apply Kd.R_drew));exact (Kd.R_mono (Kd.R_far (p:=⟨gb203,5,none⟩) (Kd.R_far (p:=⟨gb203,4,none⟩) (Kd.R_far (p:=⟨gb203,3,none⟩) (Kd.R_far (p:=⟨gb203,2,none⟩) (Kd.R_far (p:=⟨gb203,1,none⟩) (Kd.R_far (p:=⟨gb203,0,none⟩) (Kd.R_mono HO_5.out (fun k_ hk=>(⟨hk,hk.2⟩:_∧k_≠gb203))) (fun _ hk=>hk.2) (.int .i64 3)) (fun _ hk=>hk.2) (.int .i64 0)) (fun _ hk=>hk.2) (.int .i64 0)) (fun _ hk=>hk.2) (.int .i64 0)) (fun _ hk=>hk.2) (.int .i64 0)) (fun _ hk=>hk.2) (.int .i64 0)) (fun _ h_=>h_.1)))) (by decide) hg);have n2_:=Aside0.mk (Kd.R_over' (by (with_reducible repeat (first|apply Kd.R_alloc|apply Kd.R_drewN|apply Kd.R_drew));exact (Kd.R_mono (Kd.R_far (p:=⟨gb203,5,none⟩) (Kd.R_far (p:=⟨gb203,4,none⟩) (Kd.R_far (p:=⟨gb203,3,none⟩) (Kd.R_far (p:=⟨gb203,2,none⟩) (Kd.R_far (p:=⟨gb203,1,none⟩) (Kd.R_far (p:=⟨gb203,0,none⟩) (Kd.R_types HO_19.out BK203.out (by decide)) (fun _ hk=>hk.2) (.int .i64 3)) (fun _ hk=>hk.2) (.int .i64 0)) (fun _ hk=>hk.2) (.int .i64 0)) (fun _ hk=>hk.2) (.int .i64 0)) (fun _ hk=>hk.2) (.int .i64 0)) (fun _ hk=>hk.2) (.int .i64 0)) (fun _ h_=>h_.1))) (Kd.R_typed (by (with_reducible repeat (first|apply Kd.R_alloc|apply Kd.R_drewN|apply Kd.R_drew));exact (Kd.R_mono (Kd.R_far (p:=⟨gb203,5,none⟩) (Kd.R_far (p:=⟨gb203,4,none⟩) (Kd.R_far (p:=⟨gb203,3,none⟩) (Kd.R_far (p:=⟨gb203,2,none⟩) (Kd.R_far (p:=⟨gb203,1,none⟩) (Kd.R_far (p:=⟨gb203,0,none⟩) (Kd.R_mono HO_5.out (fun k_ hk=>(⟨hk,hk.2⟩:_∧k_≠gb203))) (fun _ hk=>hk.2) (.int .i64 3)) (fun _ hk=>hk.2) (.int .i64 0)) (fun _ hk=>hk.2) (.int .i64 0)) (fun _ hk=>hk.2) (.int .i64 0)) (fun _ hk=>hk.2) (.int .i64 0)) (fun _ hk=>hk.2) (.int .i64 0)) (fun _ h_=>h_.1)))) (by decide) hg);have n3_:=Aside0.mk (blk_grown (g:=gb185) (o:= .cells #[.int .i64 a0_0,.int .i64 a0_1,.int .i64 a0_2,.int .i64 a0_3,.int .i64 a0_4,.slice A0_5 l0_5.length c0_5,.slice A0_6 l0_6.length c0_6,.int .i64 a0_7] 50 (0,0)) (by (with_reducible repeat (first|refine blk_drewN ?_ _|refine blk_drew ?_|refine blk_alloc ?_ _));refine blk_far ?_ NB185_203.out _;(with_reducible repeat (first|refine blk_drewN ?_ _|refine blk_drew ?_|refine blk_alloc ?_ _));refine blk_far ?_ NB185_203.out _;(with_reducible repeat (first|refine blk_drewN ?_ _|refine blk_drew ?_|refine blk_alloc ?_ _));refine blk_far ?_ NB185_203.out _;(with_reducible repeat (first|refine blk_drewN ?_ _|refine blk_drew ?_|refine blk_alloc ?_ _));refine blk_far ?_ NB185_203.out _;(with_reducible repeat (first|refine blk_drewN ?_ _|refine blk_drew ?_|refine blk_alloc ?_ _));refine blk_far ?_ NB185_203.out _;(with_reducible repeat (first|refine blk_drewN ?_ _|refine blk_drew ?_|refine blk_alloc ?_ _));refine blk_far ?_ NB185_203.out _;(with_reducible repeat (first|refine blk_drewN ?_ _|refine blk_drew ?_|refine blk_alloc ?_ _));exact BK185.out) hg (Kd.R_ne HO_5.out BK185.out (by decide)));have n4_:=Aside0.mk (blk_grown (g:=gb203) (o:= .cells #[.int .i64 3,.int .i64 0,.int .i64 0,.int .i64 0,.int .i64 0,.int .i64 0] 42 (0,0)) (by (with_reducible repeat (first|refine blk_drewN ?_ _|refine blk_drew ?_|refine blk_alloc ?_ _));refine blk_put (cs:= #[.int .i64 3,.int .i64 0,.int .i64 0,.int .i64 0,.int .i64 0,.int .i64 0]) ?_ 5 _ rfl;(with_reducible repeat (first|refine blk_drewN ?_ _|refine blk_drew ?_|refine blk_alloc ?_ _));refine blk_put (cs:= #[.int .i64 3,.int .i64 0,.int .i64 0,.int .i64 0,.int .i64 0,.int .i64 0]) ?_ 4 _ rfl;(with_reducible repeat (first|refine blk_drewN ?_ _|refine blk_drew ?_|refine blk_alloc ?_ _));refine blk_put (cs:= #[.int .i64 3,.int .i64 0,.int .i64 0,.int .i64 0,.int .i64 0,.int .i64 0]) ?_ 3 _ rfl;(with_reducible repeat (first|refine blk_drewN ?_ _|refine blk_drew ?_|refine blk_alloc ?_ _));refine blk_put (cs:= #[.int .i64 3,.int .i64 0,.int .i64 0,.int .i64 0,.int .i64 0,.int .i64 0]) ?_ 2 _ rfl;(with_reducible repeat (first|refine blk_drewN ?_ _|refine blk_drew ?_|refine blk_alloc ?_ _));refine blk_put (cs:= #[.int .i64 3,.int .i64 0,.int .i64 0,.int .i64 0,.int .i64 0,.int .i64 0]) ?_ 1 _ rfl;(with_reducible repeat (first|refine blk_drewN ?_ _|refine blk_drew ?_|refine blk_alloc ?_ _));refine blk_put (cs:= #[.int .i64 0,.int .i64 0,.int .i64 0,.int .i64 0,.int .i64 0,.int .i64 0]) ?_ 0 _ rfl;(with_reducible repeat (first|refine blk_drewN ?_ _|refine blk_drew ?_|refine blk_alloc ?_ _));exact BK203.out) hg (Kd.R_away HO_5.out (fun _ hk=>hk.2)));have n5_:=Aside0.mk (hb);have n6_:=Aside0.mk (ho);clear HO_6;clear HO_7;clear HO_19;clear BK185;clear BK203;clear HB;clear HO_5;have HO_6:=n0_;have HO_7:=n1_;have HO_19:=n2_;have BK185:=n3_;have BK203:=n4_;have HB:=n5_;have HO212:=n6_;clear n0_ n1_ n2_ n3_ n4_ n5_ n6_;clear ho hb hg hat))
       go_ret
       exact ⟨_,by first|rfl|(simp [errW_none,errW_some] <;> rfl)|(simp [*,errW_none,errW_some] <;> rfl),by (with_reducible repeat (first|apply Kd.R_alloc|apply Kd.R_drewN|apply Kd.R_drew));exact Kd.R_mono HO212.out (fun _ hk=>trivial),by repeat (first|(with_reducible first|exact HB.out|apply below_alloc|apply pw_below_drewN|apply below_drew1|refine below_set ?_ GE185.out|refine below_set ?_ GE203.out)|exact HB.out)⟩
      ·
       rw [if_neg c40] at H
       exact absurd H (by simp)
    ·
     rw [if_neg c28] at H
     have c28b0:(a0_4==1)=false:=beq_eq_false_iff_ne.mpr c28
     have c28b1:(a0_4 !=1)=true:=bne_iff_ne.mpr c28
     obtain rfl:=Option.some.inj H
     go_wp2_with (first|((with_reducible refine gate_dst (N:=12) rfl ?_);refine box_event ?hg (N:=12) ?hd (cs:= #[.int .i64 0,.int .i64 0,.int .i64 0,.int .i64 0,.int .i64 0,.int .i64 0]) (t:=42) ?hr ?_;(case hd=>rfl);(case hg=>rfl);(case hr=>first|(go_simp;done)|(go_simp;rfl));intro gb203 hg w46 hbox hb;have n0_:=Aside0.mk (Kd.R_below (Kd.R_elderB (by (with_reducible repeat (first|apply Kd.R_alloc|apply Kd.R_drewN|apply Kd.R_drew));exact HO_5.out) gb203 (Nat.le_of_eq hg.symm)) hb);have n1_:=Aside0.mk (Kd.R_below (by (with_reducible repeat (first|apply Kd.R_alloc|apply Kd.R_drewN|apply Kd.R_drew));exact HO_6.out) hb);have n2_:=Aside0.mk (Kd.R_below (by (with_reducible repeat (first|apply Kd.R_alloc|apply Kd.R_drewN|apply Kd.R_drew));exact HO_7.out) hb);have n3_:=Aside0.mk (Kd.R_below (by (with_reducible repeat (first|apply Kd.R_alloc|apply Kd.R_drewN|apply Kd.R_drew));exact HO_19.out) hb);have n4_:=Aside0.mk (blk_below (g:=gb185) (o:= .cells #[.int .i64 a0_0,.int .i64 a0_1,.int .i64 a0_2,.int .i64 a0_3,.int .i64 a0_4,.slice A0_5 l0_5.length c0_5,.slice A0_6 l0_6.length c0_6,.int .i64 a0_7] 50 (0,0)) (by (with_reducible repeat (first|refine blk_drewN ?_ _|refine blk_drew ?_|refine blk_alloc ?_ _));exact BK185.out) hb);have n5_:=Aside0.mk (below_step (by repeat (first|(with_reducible first|exact HB.out|apply below_alloc|apply pw_below_drewN|apply below_drew1|refine below_set ?_ GE185.out)|exact HB.out)) hb);have n6_:=Aside0.mk (hbox);have n7_:=Aside0.mk ((by rw [hg];exact (below_size (by repeat (first|(with_reducible first|exact HB.out|apply below_alloc|apply pw_below_drewN|apply below_drew1|refine below_set ?_ GE185.out)|exact HB.out))):w.heap.size≤gb203));have n8_:=Aside0.mk ((by rw [hg];exact (below_size (by repeat (first|(with_reducible first|exact HB.out|apply below_alloc|apply pw_below_drewN|apply below_drew1|refine below_set ?_ GE185.out)|exact HB.out))):w.heap.size≤gb203));have n9_:=Aside0.mk ((by rw [hg];exact Nat.ne_of_lt (blk_lt (g:=gb185) (o:= .cells #[.int .i64 a0_0,.int .i64 a0_1,.int .i64 a0_2,.int .i64 a0_3,.int .i64 a0_4,.slice A0_5 l0_5.length c0_5,.slice A0_6 l0_6.length c0_6,.int .i64 a0_7] 50 (0,0)) (by (with_reducible repeat (first|refine blk_drewN ?_ _|refine blk_drew ?_|refine blk_alloc ?_ _));exact BK185.out)):gb185≠gb203));have n10_:=Aside0.mk ((by rw [hg];exact Nat.ne_of_gt (blk_lt (g:=gb185) (o:= .cells #[.int .i64 a0_0,.int .i64 a0_1,.int .i64 a0_2,.int .i64 a0_3,.int .i64 a0_4,.slice A0_5 l0_5.length c0_5,.slice A0_6 l0_6.length c0_6,.int .i64 a0_7] 50 (0,0)) (by (with_reducible repeat (first|refine blk_drewN ?_ _|refine blk_drew ?_|refine blk_alloc ?_ _));exact BK185.out)):gb203≠gb185));clear HO_5;clear HO_6;clear HO_7;clear HO_19;clear BK185;clear HB;have HO_5:=n0_;have HO_6:=n1_;have HO_7:=n2_;have HO_19:=n3_;have BK185:=n4_;have HB:=n5_;have BK203:=n6_;have GW203:=n7_;have GE203:=n8_;have NB185_203:=n9_;have NB203_185:=n10_;clear n0_ n1_ n2_ n3_ n4_ n5_ n6_ n7_ n8_ n9_ n10_;clear hb hbox hg;have hnb47:=NB203_185.out;have hnc47:=NB185_203.out;have hcz48_0:w46.cell? ⟨gb203,0,none⟩=some (.int .i64 0):=(blk_cell BK203.out 0).trans rfl;have hcz48_1:w46.cell? ⟨gb203,1,none⟩=some (.int .i64 0):=(blk_cell BK203.out 1).trans rfl;have hcz48_2:w46.cell? ⟨gb203,2,none⟩=some (.int .i64 0):=(blk_cell BK203.out 2).trans rfl;have hcz48_3:w46.cell? ⟨gb203,3,none⟩=some (.int .i64 0):=(blk_cell BK203.out 3).trans rfl;have hcz48_4:w46.cell? ⟨gb203,4,none⟩=some (.int .i64 0):=(blk_cell BK203.out 4).trans rfl;have hcz48_5:w46.cell? ⟨gb203,5,none⟩=some (.int .i64 0):=(blk_cell BK203.out 5).trans rfl;have hfz48_0:=blk_frozen BK203.out 0;have hfz48_1:=blk_frozen BK203.out 1;have hfz48_2:=blk_frozen BK203.out 2;have hfz48_3:=blk_frozen BK203.out 3;have hfz48_4:=blk_frozen BK203.out 4;have hfz48_5:=blk_frozen BK203.out 5;have hcz49_0:w46.cell? ⟨gb185,0,none⟩=some (.int .i64 a0_0):=(blk_cell BK185.out 0).trans rfl;have hcz49_1:w46.cell? ⟨gb185,1,none⟩=some (.int .i64 a0_1):=(blk_cell BK185.out 1).trans rfl;have hcz49_2:w46.cell? ⟨gb185,2,none⟩=some (.int .i64 a0_2):=(blk_cell BK185.out 2).trans rfl;have hcz49_3:w46.cell? ⟨gb185,3,none⟩=some (.int .i64 a0_3):=(blk_cell BK185.out 3).trans rfl;have hcz49_4:w46.cell? ⟨gb185,4,none⟩=some (.int .i64 a0_4):=(blk_cell BK185.out 4).trans rfl;have hcz49_5:w46.cell? ⟨gb185,5,none⟩=some (.slice A0_5 l0_5.length c0_5):=(blk_cell BK185.out 5).trans rfl;have hcz49_6:w46.cell? ⟨gb185,6,none⟩=some (.slice A0_6 l0_6.length c0_6):=(blk_cell BK185.out 6).trans rfl;have hcz49_7:w46.cell? ⟨gb185,7,none⟩=some (.int .i64 a0_7):=(blk_cell BK185.out 7).trans rfl;have hfz49_0:=blk_frozen BK185.out 0;have hfz49_1:=blk_frozen BK185.out 1;have hfz49_2:=blk_frozen BK185.out 2;have hfz49_3:=blk_frozen BK185.out 3;have hfz49_4:=blk_frozen BK185.out 4;have hfz49_5:=blk_frozen BK185.out 5;have hfz49_6:=blk_frozen BK185.out 6;have hfz49_7:=blk_frozen BK185.out 7))
     go_ret
     exact ⟨_,by first|rfl|(simp [errW_none,errW_some] <;> rfl)|(simp [*,errW_none,errW_some] <;> rfl),by (with_reducible repeat (first|apply Kd.R_alloc|apply Kd.R_drewN|apply Kd.R_drew));exact Kd.R_mono (Kd.R_far (p:=⟨gb203,5,none⟩) (Kd.R_far (p:=⟨gb203,4,none⟩) (Kd.R_far (p:=⟨gb203,3,none⟩) (Kd.R_far (p:=⟨gb203,2,none⟩) (Kd.R_far (p:=⟨gb203,1,none⟩) (Kd.R_far (p:=⟨gb203,0,none⟩) (Kd.R_mono HO_5.out (fun k_ hk=>(⟨hk,hk.2⟩:_∧k_≠gb203))) (fun _ hk=>hk.2) (.int .i64 3)) (fun _ hk=>hk.2) (.int .i64 0)) (fun _ hk=>hk.2) (.int .i64 0)) (fun _ hk=>hk.2) (.int .i64 0)) (fun _ hk=>hk.2) (.int .i64 0)) (fun _ hk=>hk.2) (.int .i64 0)) (fun _ hk=>trivial),by repeat (first|(with_reducible first|exact HB.out|apply below_alloc|apply pw_below_drewN|apply below_drew1|refine below_set ?_ GE185.out|refine below_set ?_ GE203.out)|exact HB.out)⟩
/-! ### api_Slot_36:function 36:by hand -/
def api_Slot_36.f (a1:Int):Option (List S42):=if 0≤a1∧a1 < 1000000 then some [] else none
section
open Go.Proofs.YteoaegigjlhamaaH
set_option maxHeartbeats 2000000 in
set_option maxRecDepth 100000 in
theorem api_Slot_36.calls (a1:Int) (r:List S42) (w:World) (h:api_Slot_36.f a1=some r) :
  Calls Try.prog 36 #[.slice none 0 0,.int .i64 a1] w fun e w'=> ∃ v0_:Value,e= .returned v0_∧Kd.R k42 42 w' w.heap.size (fun _=>True) v0_ r∧Below w.heap.size w w':=by
 unfold api_Slot_36.f at h
 split at h
 rotate_left
 ·
  cases h
 rename_i hl
 obtain rfl:=Option.some.inj h
 obtain ⟨h0,h1⟩:=hl
 obtain ⟨i0,hi0,_,hsz,_⟩:=info_parts info42
 have HB:=Aside0.mk (Below.refl w.heap.size w)
 have hq0:=cut_to (P:=Try.prog) 27 42 .i64 Try.underlying27 hi0 none 0 0 0 (by decide) (by decide) (by decide)
 have hw1:IntKind.i64.wrap (a1 - 0)=a1:=by rw [Int.sub_zero];exact (by rw [IntKind.wrap_i64];omega)
 have hw2:IntKind.i64.wrap a1=a1:=(by rw [IntKind.wrap_i64];omega)
 have hn: ¬ a1 < 0:=by omega
 clear h
 by_cases hp:0 < a1
 ·
  go_enter Try.func36,Try.ntmps36
  go_wp2_with (first|((with_reducible refine gate_builtin (b:= .append) (xs:= #[.tmp 20,.tmp 21]) rfl ?_);at_builtin;refine Kd.R_append_zeros k42 (w0:=w) w.heap.size rfl (.tmp 20) (.tmp 21) 27 3 42 (.agg #[(.int .i64 0),(.int .i64 0),(.int .i64 0),(.int .i64 0),(.int .i64 0),(.int .i64 0)]) 48 rfl Try.underlying27 Try.underlying3 info42 rfl (by decide) (by decide) (.slice none 0 0) [] z42 a1 (fun _=>True) rfl rfl (k42_mkM _ _ _ _) (fun _ _=>trivial) (Kd.R_nil _ _ _ _ _) h0 HB.out HB.out.size (by simp;omega) ?_;intro v_ w1 ho hb1 hg1 hat;obtain ⟨A1,c1,rfl⟩:=Kd.R_slice ho;have hq5:=cut_to (P:=Try.prog) 27 42 .i64 Try.underlying27 hi0 A1 ([]++List.replicate a1.toNat z42).length c1 0 (by decide) (by omega) (by obtain ⟨_,inn_,ho2_,_⟩:=ho;exact own_cap ho2_);have n0_:=Aside0.mk (Kd.R_take (m:=0) ho (Nat.zero_le _));have n1_:=Aside0.mk hb1;clear ho hb1 hg1 hat))
  go_ret
  exact ⟨_,rfl,n0_.out,n1_.out⟩
 ·
  go_enter Try.func36,Try.ntmps36
  go_wp2
  go_ret
  exact ⟨_,rfl,Kd.R_nil _ _ _ _ _,HB.out⟩
end
end Go.Proofs.Yteoaegigjlhamaa.PC19
