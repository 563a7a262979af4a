/- Chapter 19, printed: what the functions compute, and proofs that they do. -/
import Derived.Test.YteoaegigjlhamaaPC19x0
import Derived.Test.YteoaegigjlhamaaPC19x3
import Derived.Test.YteoaegigjlhamaaPC19x7
namespace Go.Proofs.Yteoaegigjlhamaa.PC19
open Go.RowKit Go.Proofs.YteoaegigjlhamaaW.PrintWords Go.Proofs.YteoaegigjlhamaaW.PrintLast Go.Proofs.YteoaegigjlhamaaW.PrintMore
attribute [local go_sem] max2_int min2_int max_two min_two max_three min_three max_four min_four
set_option linter.unusedVariables false
set_option linter.unusedSimpArgs false
def y_comes.f (k:Nat) (l0:List (S36)) (l1:List Int) (a2_0:Int) (a2_1:Int) (a2_2:Int) (a2_3:Int) (a2_4:Int) (a3:Int) (a4:Int) (a5:Int) (l6:List Int):Option (Bool):=(place_Slots.f k l0 l1 a2_0 a2_1 a2_2 a2_3 a2_4 a3 a4 a5).bind fun bt244=>(if bt244.2=0 then ((y_codes.f k bt244.1).bind fun t248=>((q02_Same.f k t248 l6).bind fun t251=>(some t251))) else (some false))
theorem y_comes.mono: ∀ a0 a1 a2 a3 a4 a5 a6 a7 a8 a9 a10 k,LeO (y_comes.f k a0 a1 a2 a3 a4 a5 a6 a7 a8 a9 a10) (y_comes.f (k+1) a0 a1 a2 a3 a4 a5 a6 a7 a8 a9 a10):=by
 intros
 unfold y_comes.f
 have j0:=@y_codes.mono
 have j1:=@q02_Same.mono
 have j2:=@place_Slots.mono
 exact TL
set_option maxHeartbeats 8000000 in
theorem y_comes.calls (k:Nat) (A0:Option Addr) (c0:Nat) (l0:List (S36)) (A1:Option Addr) (c1:Nat) (l1:List Int) (a2_0:Int) (a2_1:Int) (a2_2:Int) (a2_3:Int) (a2_4:Int) (a3:Int) (a4:Int) (a5:Int) (A6:Option Addr) (c6:Nat) (l6:List Int) (r:Bool) (w:World) (hr0:Kd.C k36 w A0 l0.length l0) (hc0:l0.length≤c0) (hr1:Kd.C (Kd.int .i64) w A1 l1.length l1) (hc1:l1.length≤c1) (hr6:Kd.C (Kd.int .i64) w A6 l6.length l6) (hc6:l6.length≤c6) (h:y_comes.f k l0 l1 a2_0 a2_1 a2_2 a2_3 a2_4 a3 a4 a5 l6=some r) :
  Calls Try.prog 16 #[.slice A0 l0.length c0,.slice A1 l1.length c1,.agg #[.int .i64 a2_0,.int .i64 a2_1,.int .i64 a2_2,.int .i64 a2_3,.int .i64 a2_4],.int .i64 a3,.int .i64 a4,.int .i64 a5,.slice A6 l6.length c6] w fun e w'=>e= .returned (.bool r)∧Below w.heap.size w w':=by
 have hu25:=Try.underlying25
 have HR0:=Am hr0
 have HC0:=Am hc0
 clear hr0 hc0
 have HR1:=Am hr1
 have HC1:=Am hc1
 clear hr1 hc1
 have HR6:=Am hr6
 have HC6:=Am hc6
 clear hr6 hc6
 have HB:=Am (Below.refl w.heap.size w)
 have H:((place_Slots.f k l0 l1 a2_0 a2_1 a2_2 a2_3 a2_4 a3 a4 a5).bind fun bt244=>(if bt244.2=0 then ((y_codes.f k bt244.1).bind fun t248=>((q02_Same.f k t248 l6).bind fun t251=>(some t251))) else (some false)))=some r:=h
 clear h
 replace H:=Option.bind_eq_some_iff.mp H
 obtain ⟨⟨t244,t247⟩,A80,H⟩:=H
 try dsimp only at H
 have A8:=Am A80
 clear A80
 by_cases c9:t247=0
 rotate_left
 ·
  rw [if_neg c9] at H
  have c9b0:(t247==0)=false:=beq_eq_false_iff_ne.mpr c9
  have c9b1:(t247 !=0)=true:=bne_iff_ne.mpr c9
  obtain rfl:=Option.some.inj H
  go_enter Try.func16,Try.ntmps16
  go_wp2_with (first|((with_reducible refine gate_dst (N:=9) rfl ?_);refine box_event ?hg (N:=9) ?hd (cs:= #[.int .i64 a2_0,.int .i64 a2_1,.int .i64 a2_2,.int .i64 a2_3,.int .i64 a2_4]) (t:=25) ?hr ?_;(case hd=>rfl);(case hg=>rfl);(case hr=>exact TG);intro gb243 hg w18 hbox hb;have BK243:=Am (hbox);have GW243:=Am (gwS hg);have GE243:=Am (gwS hg);replace HB:=Am (below_step TB hb);clear hb hbox hg;obtain ⟨hcz19_0,hcz19_1,hcz19_2,hcz19_3,hcz19_4⟩:=blkC5 BK243.out;obtain ⟨hfz19_0,hfz19_1,hfz19_2,hfz19_3,hfz19_4⟩:=blkF5 BK243.out)|((with_reducible refine gate_callee (f:=8) rfl ?_);refine goesL_ (some 24) rfl rfl Try.func8 TK rfl #[.slice A0 l0.length c0,.slice A1 l1.length c1,.agg #[.int .i64 a2_0,.int .i64 a2_1,.int .i64 a2_2,.int .i64 a2_3,.int .i64 a2_4],.int .i64 a3,.int .i64 a4,.int .i64 a5] rfl TM ?_;(with_reducible refine (place_Slots.calls k _ _ l0 _ _ l1 a2_0 a2_1 a2_2 a2_3 a2_4 a3 a4 a5 t244 t247 _ ?side1 ?side2 ?side3 ?side4 A8.out).mono ?_);(case side1=>exact CU (Kd.C_below HR0.out HB.out));(case side2=>exact HC0.out);(case side3=>exact CU (Kd.C_below HR1.out HB.out));(case side4=>exact HC1.out);rintro e w20 ⟨v245,rfl,ho0,hb⟩;refine ⟨_,rfl,?_⟩;have HO246:=Am (Kd.R_lower ho0 (below_size TB));replace BK243:=Am (blk_below (blkU BK243.out) hb);replace HB:=Am (below_step TB hb);(try clear hb);(try clear hb2);(try clear hk);(try clear hi);(try clear ho0)))
  go_ret
  exact ⟨TE,TB⟩
 rw [if_pos c9] at H
 have c9b0:(t247==0)=true:=beq_iff_eq.mpr c9
 have c9b1:(t247 !=0)=false:=bne_eq_false_iff_eq.mpr c9
 clear c9
 obtain ⟨t248,A100,H⟩:=Option.bind_eq_some_iff.mp H
 try dsimp only at H
 have A10:=Am A100
 clear A100
 obtain ⟨t251,A110,H⟩:=Option.bind_eq_some_iff.mp H
 try dsimp only at H
 have A11:=Am A110
 clear A110
 obtain rfl:=Option.some.inj H
 go_enter Try.func16,Try.ntmps16
 go_wp2_with (first|((with_reducible refine gate_dst (N:=9) rfl ?_);refine box_event ?hg (N:=9) ?hd (cs:= #[.int .i64 a2_0,.int .i64 a2_1,.int .i64 a2_2,.int .i64 a2_3,.int .i64 a2_4]) (t:=25) ?hr ?_;(case hd=>rfl);(case hg=>rfl);(case hr=>exact TG);intro gb243 hg w12 hbox hb;have BK243:=Am (hbox);have GW243:=Am (gwS hg);have GE243:=Am (gwS hg);replace HB:=Am (below_step TB hb);clear hb hbox hg;obtain ⟨hcz13_0,hcz13_1,hcz13_2,hcz13_3,hcz13_4⟩:=blkC5 BK243.out;obtain ⟨hfz13_0,hfz13_1,hfz13_2,hfz13_3,hfz13_4⟩:=blkF5 BK243.out)|((with_reducible refine gate_callee (f:=8) rfl ?_);refine goesL_ (some 24) rfl rfl Try.func8 TK rfl #[.slice A0 l0.length c0,.slice A1 l1.length c1,.agg #[.int .i64 a2_0,.int .i64 a2_1,.int .i64 a2_2,.int .i64 a2_3,.int .i64 a2_4],.int .i64 a3,.int .i64 a4,.int .i64 a5] rfl TM ?_;(with_reducible refine (place_Slots.calls k _ _ l0 _ _ l1 a2_0 a2_1 a2_2 a2_3 a2_4 a3 a4 a5 t244 t247 _ ?side1 ?side2 ?side3 ?side4 A8.out).mono ?_);(case side1=>exact CU (Kd.C_below HR0.out HB.out));(case side2=>exact HC0.out);(case side3=>exact CU (Kd.C_below HR1.out HB.out));(case side4=>exact HC1.out);rintro e w14 ⟨v245,rfl,ho0,hb⟩;refine ⟨_,rfl,?_⟩;have HO246:=Am (Kd.R_lower ho0 (below_size TB));replace BK243:=Am (blk_below (blkU BK243.out) hb);replace HB:=Am (below_step TB hb);(try clear hb);(try clear hb2);(try clear hk);(try clear hi);(try clear ho0);obtain ⟨Ao15,co15,eo15⟩:=Kd.R_slice HO246.out;subst eo15)|(go_at_call 29;(with_reducible refine (y_codes.calls k _ _ t244 t248 _ ?side1 ?side2 A10.out).mono ?_);(case side1=>exact CU ((Kd.R_reads' HO246.out).2.2));(case side2=>exact (Kd.R_reads' HO246.out).2.1);rintro e w16 ⟨v249,rfl,ho0,hb⟩;replace HO246:=Am (Kd.R_below (RU HO246.out) hb);have HO250:=Am (Kd.R_lower ho0 (below_size TB));replace BK243:=Am (blk_below (blkU BK243.out) hb);replace HB:=Am (below_step TB hb);(try clear hb);(try clear hb2);(try clear hk);(try clear hi);(try clear ho0);obtain ⟨Ao17,co17,eo17⟩:=Kd.R_slice HO250.out;subst eo17)|(go_at_call 12;(with_reducible refine (q02_Same.calls k _ _ t248 _ _ l6 t251 _ ?side1 ?side2 ?side3 ?side4 A11.out).mono ?_);(case side1=>exact CU ((Kd.R_reads' HO250.out).2.2));(case side2=>exact (Kd.R_reads' HO250.out).2.1);(case side3=>exact CU (Kd.C_below HR6.out HB.out));(case side4=>exact HC6.out);rintro e w' ⟨rfl,⟨nd,rfl⟩⟩))
 go_ret
 exact ⟨TE,TB⟩
def y_awake.f (k:Nat):Option Bool:=some true
theorem y_awake.mono: ∀ k,LeO (y_awake.f k) (y_awake.f (k+1)):=fun _=>LeO.refl _
section
open Go.Proofs.YteoaegigjlhamaaH
def y_awake.xa:List S36:=[⟨0,1,97⟩,⟨1,1,1488⟩,⟨2,1,1489⟩]
theorem y_awake.at_a:y_of.f 60 [97,1488,1489]=some y_awake.xa:=by kernel_rfl
def y_awake.xb:List S36:=[⟨0,1,40⟩,⟨1,1,1488⟩]
theorem y_awake.at_b:y_of.f 60 [40,1488]=some y_awake.xb:=by kernel_rfl
def y_awake.xc:List S36:=[⟨0,1,97⟩,⟨1,1,98⟩,⟨2,1,99⟩]
theorem y_awake.at_c:y_of.f 60 [97,98,99]=some y_awake.xc:=by kernel_rfl
def y_awake.xd:List S36:=[⟨0,1,19968⟩]
theorem y_awake.at_d:y_of.f 60 [19968]=some y_awake.xd:=by kernel_rfl
set_option maxRecDepth 100000
theorem y_awake.is0:y_comes.f 60 y_awake.xa [0,1,1] 0 3 3 1 0 0 5 2 [97,1489,1488,(-2),(-2)]=some true:=by decide +kernel
theorem y_awake.is1:y_comes.f 60 y_awake.xa [2,1,1] 0 3 3 1 0 1 5 3 [(-2),(-2),1489,1488,97]=some true:=by decide +kernel
theorem y_awake.is2:y_comes.f 60 y_awake.xb [1,1] 0 2 2 0 0 1 4 4 [(-2),1488,41,(-2)]=some true:=by decide +kernel
theorem y_awake.is3:y_comes.f 60 y_awake.xc [0,0,0] 0 3 1 0 1 0 3 2 [97,(-3),(-2)]=some true:=by decide +kernel
theorem y_awake.is4:y_comes.f 60 y_awake.xd [0] 0 1 1 0 0 0 3 3 [(-2),19968,2117120]=some true:=by decide +kernel
theorem y_awake.lit_C (W:World) (g t:Nat) (l:List Int) (h:W.heap[g]?=some (.cells (nums .i64 l).toArray t (0,0))) (hl:l.length≤1000):Kd.C (Kd.int .i64) W (some ⟨g,0,none⟩) l.length l:=by
 refine Kd.C_of_reads (d:=(0:Int)) (h1:=fun _=>rfl) ⟨rfl,by omega,fun _=>⟨_,rfl,fun j hj=>?_⟩⟩
 have e:(⟨g,0,none⟩:Addr).add j=⟨g,j,none⟩:=by
  by_cases h0:j=0
  ·
   rw [h0];rfl
  ·
   simp [Addr.add,h0]
 rw [e]
 exact nums_cell W g t l h j hj
theorem y_awake.block_load {P:Program} {ops:Array Oper} {rest:List Oper} {o:Oper} {a:Act} {Q:Exit→Act→World→Prop} {W:World} (hgd:o.guard=none) (t:TypeId) (p:Operand) (ho:o.op= .load t p) {g e:Nat} {cs:Array Value} (hp:a.eval p= .pointer (some ⟨g,0,none⟩)) (hb:W.heap[g]?=some (.cells cs e (0,0))) (d:TypeDesc)
  (hu:P.underlying t=some d) (hd:(match d with| .struct _| .array _ _=>true|_=>false)=true) (hi:(P.info? t).map (·.size)=some cs.size) (hw:wpList P ops Q rest (a.put o.dst (.agg cs)) W):wpList P ops Q (o::rest) a W:=by
 refine agg_load hgd t p ho ⟨g,0,none⟩ hp cs.toList d hu hd (by rw [Array.length_toList];exact hi) (fun j v hj=>?_) hw
 have e:(⟨g,0,none⟩:Addr).add j=⟨g,j,none⟩:=by
  by_cases h0:j=0
  ·
   rw [h0];rfl
  ·
   simp [Addr.add,h0]
 rw [e,blk_cell hb j]
 simpa using hj
set_option maxHeartbeats 4000000 in
theorem y_awake.calls (k:Nat) (r:Bool) (w:World) (h:y_awake.f k=some r):Calls Try.prog 7 #[] w fun e w'=>e= .returned (.bool r)∧Below w.heap.size w w':=by
 obtain rfl:true=r:=Option.some.inj h
 clear h
 have HB:=Am (Below.refl w.heap.size w)
 go_enter Try.func7,Try.ntmps7
 go_upto_region 1 with (fail)
 refine wp_region_list ?_
 refine Kd.event_run (w1:=w.alloc (.cells #[.int .i64 97,.int .i64 1488,.int .i64 1489] 3)) (v:= .slice (some ⟨w.heap.size,0,none⟩) 3 3) rfl TK ?_
 simp only [PT2]
 obtain ⟨w1,hW_⟩: ∃ W_,w.alloc (.cells #[.int .i64 97,.int .i64 1488,.int .i64 1489] 3)=W_:=⟨_,rfl⟩
 have hb:Below w.heap.size w w1:=by rw [← hW_];exact below_alloc (Below.refl _ _) _
 have hI:Aside0 (Kd.C (Kd.int .i64) w1 (some ⟨w.heap.size,0,none⟩) 3 [97,1488,1489]):=⟨by rw [← hW_];exact y_awake.lit_C _ _ _ [97,1488,1489] (blk_new _ _) (by decide)⟩
 rw [hW_]
 have nB_:=Am (below_step HB.out hb)
 clear HB
 have HB:=nB_
 clear hb nB_
 clear hW_
 generalize w.heap.size=gx at hI ⊢
 have Hx:=hI
 clear hI
 refine goesL_ (some 4) rfl rfl Try.func15 TK rfl #[.slice (some ⟨gx,0,none⟩) 3 3] rfl TK ?_
 refine (y_of.calls 60 (some ⟨gx,0,none⟩) 3 [97,1488,1489] y_awake.xa _ Hx.out (Nat.le_refl _) y_awake.at_a).mono ?_
 rintro e w2 ⟨v_,rfl,ho,hb⟩
 obtain ⟨Aa,ca,rfl⟩:=Kd.R_slice ho
 obtain ⟨_,hc_,hr_⟩:=Kd.R_reads' ho
 refine ⟨_,rfl,?_⟩
 simp only [PT2]
 clear Hx ho
 have nB_:=Am (below_step HB.out hb)
 clear HB
 have HB:=nB_
 clear hb nB_
 have Ha:=Am hr_
 have HCa:=Am hc_
 clear hr_ hc_
 refine Kd.event_run (w1:=w2) (v:=(.slice Aa y_awake.xa.length ca:Value)) rfl TK ?_
 simp only [PT2]
 refine wpList_nil ?_
 go_upto_region 2 with (fail)
 refine wp_region_list ?_
 refine Kd.event_run (w1:=w2) (v:= .agg #[.int .i64 0,.int .i64 3,.int .i64 3,.int .i64 1,.int .i64 0]) rfl TK ?_
 simp only [PT2]
 refine alloc_event rfl 25 rfl 5 TK ?_
 intro gt w3 cs_ hcs_ hg_ hk_ hb_ _
 simp only [PT2]
 refine block_store rfl rfl 25 (.tmp 2) (.tmp 5) rfl TK (.agg #[.int .i64 0,.int .i64 3,.int .i64 3,.int .i64 1,.int .i64 0]) TK hk_ (by rw [hcs_];rfl) (by rw [hcs_];kernel_rfl) (by decide) ?_
 intro w4 hk2_ _ _ hB2_
 have hb:=hB2_ _ _ hb_ (Nat.le_of_eq hg_.symm)
 clear hB2_ hb_ hg_ hk_ hcs_
 have nB_:=Am (below_step HB.out hb)
 have na_:=Am (Kd.C_below Ha.out hb)
 clear HB Ha
 have HB:=nB_
 have Ha:=na_
 clear hb nB_ na_
 have Ht:=Am hk2_
 clear hk2_
 refine wpList_nil ?_
 go_upto_region 3 with (fail)
 refine wp_region_list ?_
 refine Kd.event_run (w1:=w4) (v:=(.slice Aa y_awake.xa.length ca:Value)) rfl TK ?_
 simp only [PT2]
 refine Kd.event_run (w1:=w4.alloc (.cells #[.int .i64 0,.int .i64 1,.int .i64 1] 3)) (v:= .slice (some ⟨w4.heap.size,0,none⟩) 3 3) rfl TK ?_
 simp only [PT2]
 obtain ⟨w5,hW_⟩: ∃ W_,w4.alloc (.cells #[.int .i64 0,.int .i64 1,.int .i64 1] 3)=W_:=⟨_,rfl⟩
 have hb:Below w4.heap.size w4 w5:=by rw [← hW_];exact below_alloc (Below.refl _ _) _
 have hI:Aside0 (Kd.C (Kd.int .i64) w5 (some ⟨w4.heap.size,0,none⟩) 3 [0,1,1]):=⟨by rw [← hW_];exact y_awake.lit_C _ _ _ [0,1,1] (blk_new _ _) (by decide)⟩
 rw [hW_]
 have nB_:=Am (below_step HB.out hb)
 have na_:=Am (Kd.C_below Ha.out hb)
 have nt_:=Am (blk_below Ht.out hb)
 clear HB Ha Ht
 have HB:=nB_
 have Ha:=na_
 have Ht:=nt_
 clear hb nB_ na_ nt_
 clear hW_
 generalize w4.heap.size=gl at hI ⊢
 have Hl:=hI
 clear hI
 refine y_awake.block_load rfl 25 (.tmp 2) rfl TK Ht.out _ Try.underlying25 rfl TK ?_
 simp only [PT2]
 refine Kd.event_run (w1:=w5.alloc (.cells #[.int .i64 97,.int .i64 1489,.int .i64 1488,.int .i64 (-2),.int .i64 (-2)] 3)) (v:= .slice (some ⟨w5.heap.size,0,none⟩) 5 5) rfl TK ?_
 simp only [PT2]
 obtain ⟨w6,hW_⟩: ∃ W_,w5.alloc (.cells #[.int .i64 97,.int .i64 1489,.int .i64 1488,.int .i64 (-2),.int .i64 (-2)] 3)=W_:=⟨_,rfl⟩
 have hb:Below w5.heap.size w5 w6:=by rw [← hW_];exact below_alloc (Below.refl _ _) _
 have hI:Aside0 (Kd.C (Kd.int .i64) w6 (some ⟨w5.heap.size,0,none⟩) 5 [97,1489,1488,(-2),(-2)]):=⟨by rw [← hW_];exact y_awake.lit_C _ _ _ [97,1489,1488,(-2),(-2)] (blk_new _ _) (by decide)⟩
 rw [hW_]
 have nB_:=Am (below_step HB.out hb)
 have na_:=Am (Kd.C_below Ha.out hb)
 have nt_:=Am (blk_below Ht.out hb)
 have nl_:=Am (Kd.C_below Hl.out hb)
 clear HB Ha Ht Hl
 have HB:=nB_
 have Ha:=na_
 have Ht:=nt_
 have Hl:=nl_
 clear hb nB_ na_ nt_ nl_
 clear hW_
 generalize w5.heap.size=gy at hI ⊢
 have Hy:=hI
 clear hI
 refine goesL_ (some 10) rfl rfl Try.func16 TK rfl #[.slice Aa y_awake.xa.length ca,.slice (some ⟨gl,0,none⟩) 3 3,.agg #[.int .i64 0,.int .i64 3,.int .i64 3,.int .i64 1,.int .i64 0],.int .i64 0,.int .i64 5,.int .i64 2,.slice (some ⟨gy,0,none⟩) 5 5] rfl TK ?_
 refine (y_comes.calls 60 Aa ca y_awake.xa (some ⟨gl,0,none⟩) 3 [0,1,1] 0 3 3 1 0 0 5 2 (some ⟨gy,0,none⟩) 5 [97,1489,1488,(-2),(-2)] true _ Ha.out HCa.out Hl.out (Nat.le_refl _) Hy.out (Nat.le_refl _) y_awake.is0).mono ?_
 rintro e w7 ⟨rfl,hb⟩
 refine ⟨_,rfl,?_⟩
 simp only [PT2]
 clear Hl Hy
 have nB_:=Am (below_step HB.out hb)
 have na_:=Am (Kd.C_below Ha.out hb)
 have nt_:=Am (blk_below Ht.out hb)
 clear HB Ha Ht
 have HB:=nB_
 have Ha:=na_
 have Ht:=nt_
 clear hb nB_ na_ nt_
 refine Kd.event_run (w1:=w7) (v:= .bool true) rfl TK ?_
 simp only [PT2]
 refine gate_guard TK ?_
 dsimp only
 refine Kd.event_run (w1:=w7) (v:=(.slice Aa y_awake.xa.length ca:Value)) rfl TK ?_
 simp only [PT2]
 refine gate_guard TK ?_
 dsimp only
 refine Kd.event_run (w1:=w7.alloc (.cells #[.int .i64 2,.int .i64 1,.int .i64 1] 3)) (v:= .slice (some ⟨w7.heap.size,0,none⟩) 3 3) rfl TK ?_
 simp only [PT2]
 obtain ⟨w8,hW_⟩: ∃ W_,w7.alloc (.cells #[.int .i64 2,.int .i64 1,.int .i64 1] 3)=W_:=⟨_,rfl⟩
 have hb:Below w7.heap.size w7 w8:=by rw [← hW_];exact below_alloc (Below.refl _ _) _
 have hI:Aside0 (Kd.C (Kd.int .i64) w8 (some ⟨w7.heap.size,0,none⟩) 3 [2,1,1]):=⟨by rw [← hW_];exact y_awake.lit_C _ _ _ [2,1,1] (blk_new _ _) (by decide)⟩
 rw [hW_]
 have nB_:=Am (below_step HB.out hb)
 have na_:=Am (Kd.C_below Ha.out hb)
 have nt_:=Am (blk_below Ht.out hb)
 clear HB Ha Ht
 have HB:=nB_
 have Ha:=na_
 have Ht:=nt_
 clear hb nB_ na_ nt_
 clear hW_
 generalize w7.heap.size=gl at hI ⊢
 have Hl:=hI
 clear hI
 refine gate_guard TK ?_
 dsimp only
 refine y_awake.block_load rfl 25 (.tmp 2) rfl TK Ht.out _ Try.underlying25 rfl TK ?_
 simp only [PT2]
 refine gate_guard TK ?_
 dsimp only
 refine Kd.event_run (w1:=w8.alloc (.cells #[.int .i64 (-2),.int .i64 (-2),.int .i64 1489,.int .i64 1488,.int .i64 97] 3)) (v:= .slice (some ⟨w8.heap.size,0,none⟩) 5 5) rfl TK ?_
 simp only [PT2]
 obtain ⟨w9,hW_⟩: ∃ W_,w8.alloc (.cells #[.int .i64 (-2),.int .i64 (-2),.int .i64 1489,.int .i64 1488,.int .i64 97] 3)=W_:=⟨_,rfl⟩
 have hb:Below w8.heap.size w8 w9:=by rw [← hW_];exact below_alloc (Below.refl _ _) _
 have hI:Aside0 (Kd.C (Kd.int .i64) w9 (some ⟨w8.heap.size,0,none⟩) 5 [(-2),(-2),1489,1488,97]):=⟨by rw [← hW_];exact y_awake.lit_C _ _ _ [(-2),(-2),1489,1488,97] (blk_new _ _) (by decide)⟩
 rw [hW_]
 have nB_:=Am (below_step HB.out hb)
 have na_:=Am (Kd.C_below Ha.out hb)
 have nt_:=Am (blk_below Ht.out hb)
 have nl_:=Am (Kd.C_below Hl.out hb)
 clear HB Ha Ht Hl
 have HB:=nB_
 have Ha:=na_
 have Ht:=nt_
 have Hl:=nl_
 clear hb nB_ na_ nt_ nl_
 clear hW_
 generalize w8.heap.size=gy at hI ⊢
 have Hy:=hI
 clear hI
 refine gate_guard TK ?_
 dsimp only
 refine goesL_ (some 16) rfl rfl Try.func16 TK rfl #[.slice Aa y_awake.xa.length ca,.slice (some ⟨gl,0,none⟩) 3 3,.agg #[.int .i64 0,.int .i64 3,.int .i64 3,.int .i64 1,.int .i64 0],.int .i64 1,.int .i64 5,.int .i64 3,.slice (some ⟨gy,0,none⟩) 5 5] rfl TK ?_
 refine (y_comes.calls 60 Aa ca y_awake.xa (some ⟨gl,0,none⟩) 3 [2,1,1] 0 3 3 1 0 1 5 3 (some ⟨gy,0,none⟩) 5 [(-2),(-2),1489,1488,97] true _ Ha.out HCa.out Hl.out (Nat.le_refl _) Hy.out (Nat.le_refl _) y_awake.is1).mono ?_
 rintro e w10 ⟨rfl,hb⟩
 refine ⟨_,rfl,?_⟩
 simp only [PT2]
 clear Hl Hy
 clear Ha HCa
 have nB_:=Am (below_step HB.out hb)
 have nt_:=Am (blk_below Ht.out hb)
 clear HB Ht
 have HB:=nB_
 have Ht:=nt_
 clear hb nB_ nt_
 refine Kd.event_run (w1:=w10) (v:= .bool true) rfl TK ?_
 simp only [PT2]
 refine Kd.event_run (w1:=w10) (v:= .bool true) rfl TK ?_
 simp only [PT2]
 clear Ht
 refine gate_guard TK ?_
 dsimp only
 refine Kd.event_run (w1:=w10.alloc (.cells #[.int .i64 40,.int .i64 1488] 3)) (v:= .slice (some ⟨w10.heap.size,0,none⟩) 2 2) rfl TK ?_
 simp only [PT2]
 obtain ⟨w11,hW_⟩: ∃ W_,w10.alloc (.cells #[.int .i64 40,.int .i64 1488] 3)=W_:=⟨_,rfl⟩
 have hb:Below w10.heap.size w10 w11:=by rw [← hW_];exact below_alloc (Below.refl _ _) _
 have hI:Aside0 (Kd.C (Kd.int .i64) w11 (some ⟨w10.heap.size,0,none⟩) 2 [40,1488]):=⟨by rw [← hW_];exact y_awake.lit_C _ _ _ [40,1488] (blk_new _ _) (by decide)⟩
 rw [hW_]
 have nB_:=Am (below_step HB.out hb)
 clear HB
 have HB:=nB_
 clear hb nB_
 clear hW_
 generalize w10.heap.size=gx at hI ⊢
 have Hx:=hI
 clear hI
 refine gate_guard TK ?_
 dsimp only
 refine goesL_ (some 20) rfl rfl Try.func15 TK rfl #[.slice (some ⟨gx,0,none⟩) 2 2] rfl TK ?_
 refine (y_of.calls 60 (some ⟨gx,0,none⟩) 2 [40,1488] y_awake.xb _ Hx.out (Nat.le_refl _) y_awake.at_b).mono ?_
 rintro e w12 ⟨v_,rfl,ho,hb⟩
 obtain ⟨Ab,cb,rfl⟩:=Kd.R_slice ho
 obtain ⟨_,hc_,hr_⟩:=Kd.R_reads' ho
 refine ⟨_,rfl,?_⟩
 simp only [PT2]
 clear Hx ho
 have nB_:=Am (below_step HB.out hb)
 clear HB
 have HB:=nB_
 clear hb nB_
 have Hb:=Am hr_
 have HCb:=Am hc_
 clear hr_ hc_
 refine gate_guard TK ?_
 dsimp only
 refine Kd.event_run (w1:=w12.alloc (.cells #[.int .i64 1,.int .i64 1] 3)) (v:= .slice (some ⟨w12.heap.size,0,none⟩) 2 2) rfl TK ?_
 simp only [PT2]
 obtain ⟨w13,hW_⟩: ∃ W_,w12.alloc (.cells #[.int .i64 1,.int .i64 1] 3)=W_:=⟨_,rfl⟩
 have hb:Below w12.heap.size w12 w13:=by rw [← hW_];exact below_alloc (Below.refl _ _) _
 have hI:Aside0 (Kd.C (Kd.int .i64) w13 (some ⟨w12.heap.size,0,none⟩) 2 [1,1]):=⟨by rw [← hW_];exact y_awake.lit_C _ _ _ [1,1] (blk_new _ _) (by decide)⟩
 rw [hW_]
 have nB_:=Am (below_step HB.out hb)
 have nb_:=Am (Kd.C_below Hb.out hb)
 clear HB Hb
 have HB:=nB_
 have Hb:=nb_
 clear hb nB_ nb_
 clear hW_
 generalize w12.heap.size=gl at hI ⊢
 have Hl:=hI
 clear hI
 refine gate_guard TK ?_
 dsimp only
 refine Kd.event_run (w1:=w13) (v:= .agg #[.int .i64 0,.int .i64 2,.int .i64 2,.int .i64 0,.int .i64 0]) rfl TK ?_
 simp only [PT2]
 refine gate_guard TK ?_
 dsimp only
 refine Kd.event_run (w1:=w13.alloc (.cells #[.int .i64 (-2),.int .i64 1488,.int .i64 41,.int .i64 (-2)] 3)) (v:= .slice (some ⟨w13.heap.size,0,none⟩) 4 4) rfl TK ?_
 simp only [PT2]
 obtain ⟨w14,hW_⟩: ∃ W_,w13.alloc (.cells #[.int .i64 (-2),.int .i64 1488,.int .i64 41,.int .i64 (-2)] 3)=W_:=⟨_,rfl⟩
 have hb:Below w13.heap.size w13 w14:=by rw [← hW_];exact below_alloc (Below.refl _ _) _
 have hI:Aside0 (Kd.C (Kd.int .i64) w14 (some ⟨w13.heap.size,0,none⟩) 4 [(-2),1488,41,(-2)]):=⟨by rw [← hW_];exact y_awake.lit_C _ _ _ [(-2),1488,41,(-2)] (blk_new _ _) (by decide)⟩
 rw [hW_]
 have nB_:=Am (below_step HB.out hb)
 have nb_:=Am (Kd.C_below Hb.out hb)
 have nl_:=Am (Kd.C_below Hl.out hb)
 clear HB Hb Hl
 have HB:=nB_
 have Hb:=nb_
 have Hl:=nl_
 clear hb nB_ nb_ nl_
 clear hW_
 generalize w13.heap.size=gy at hI ⊢
 have Hy:=hI
 clear hI
 refine gate_guard TK ?_
 dsimp only
 refine goesL_ (some 24) rfl rfl Try.func16 TK rfl #[.slice Ab y_awake.xb.length cb,.slice (some ⟨gl,0,none⟩) 2 2,.agg #[.int .i64 0,.int .i64 2,.int .i64 2,.int .i64 0,.int .i64 0],.int .i64 1,.int .i64 4,.int .i64 4,.slice (some ⟨gy,0,none⟩) 4 4] rfl TK ?_
 refine (y_comes.calls 60 Ab cb y_awake.xb (some ⟨gl,0,none⟩) 2 [1,1] 0 2 2 0 0 1 4 4 (some ⟨gy,0,none⟩) 4 [(-2),1488,41,(-2)] true _ Hb.out HCb.out Hl.out (Nat.le_refl _) Hy.out (Nat.le_refl _) y_awake.is2).mono ?_
 rintro e w15 ⟨rfl,hb⟩
 refine ⟨_,rfl,?_⟩
 simp only [PT2]
 clear Hl Hy
 clear Hb HCb
 have nB_:=Am (below_step HB.out hb)
 clear HB
 have HB:=nB_
 clear hb nB_
 refine Kd.event_run (w1:=w15) (v:= .bool true) rfl TK ?_
 simp only [PT2]
 refine Kd.event_run (w1:=w15) (v:= .bool true) rfl TK ?_
 simp only [PT2]
 refine gate_guard TK ?_
 dsimp only
 refine Kd.event_run (w1:=w15.alloc (.cells #[.int .i64 97,.int .i64 98,.int .i64 99] 3)) (v:= .slice (some ⟨w15.heap.size,0,none⟩) 3 3) rfl TK ?_
 simp only [PT2]
 obtain ⟨w16,hW_⟩: ∃ W_,w15.alloc (.cells #[.int .i64 97,.int .i64 98,.int .i64 99] 3)=W_:=⟨_,rfl⟩
 have hb:Below w15.heap.size w15 w16:=by rw [← hW_];exact below_alloc (Below.refl _ _) _
 have hI:Aside0 (Kd.C (Kd.int .i64) w16 (some ⟨w15.heap.size,0,none⟩) 3 [97,98,99]):=⟨by rw [← hW_];exact y_awake.lit_C _ _ _ [97,98,99] (blk_new _ _) (by decide)⟩
 rw [hW_]
 have nB_:=Am (below_step HB.out hb)
 clear HB
 have HB:=nB_
 clear hb nB_
 clear hW_
 generalize w15.heap.size=gx at hI ⊢
 have Hx:=hI
 clear hI
 refine gate_guard TK ?_
 dsimp only
 refine goesL_ (some 28) rfl rfl Try.func15 TK rfl #[.slice (some ⟨gx,0,none⟩) 3 3] rfl TK ?_
 refine (y_of.calls 60 (some ⟨gx,0,none⟩) 3 [97,98,99] y_awake.xc _ Hx.out (Nat.le_refl _) y_awake.at_c).mono ?_
 rintro e w17 ⟨v_,rfl,ho,hb⟩
 obtain ⟨Ac,cc,rfl⟩:=Kd.R_slice ho
 obtain ⟨_,hc_,hr_⟩:=Kd.R_reads' ho
 refine ⟨_,rfl,?_⟩
 simp only [PT2]
 clear Hx ho
 have nB_:=Am (below_step HB.out hb)
 clear HB
 have HB:=nB_
 clear hb nB_
 have Hc:=Am hr_
 have HCc:=Am hc_
 clear hr_ hc_
 refine gate_guard TK ?_
 dsimp only
 refine Kd.event_run (w1:=w17.alloc (.cells #[.int .i64 0,.int .i64 0,.int .i64 0] 3)) (v:= .slice (some ⟨w17.heap.size,0,none⟩) 3 3) rfl TK ?_
 simp only [PT2]
 obtain ⟨w18,hW_⟩: ∃ W_,w17.alloc (.cells #[.int .i64 0,.int .i64 0,.int .i64 0] 3)=W_:=⟨_,rfl⟩
 have hb:Below w17.heap.size w17 w18:=by rw [← hW_];exact below_alloc (Below.refl _ _) _
 have hI:Aside0 (Kd.C (Kd.int .i64) w18 (some ⟨w17.heap.size,0,none⟩) 3 [0,0,0]):=⟨by rw [← hW_];exact y_awake.lit_C _ _ _ [0,0,0] (blk_new _ _) (by decide)⟩
 rw [hW_]
 have nB_:=Am (below_step HB.out hb)
 have nc_:=Am (Kd.C_below Hc.out hb)
 clear HB Hc
 have HB:=nB_
 have Hc:=nc_
 clear hb nB_ nc_
 clear hW_
 generalize w17.heap.size=gl at hI ⊢
 have Hl:=hI
 clear hI
 refine gate_guard TK ?_
 dsimp only
 refine Kd.event_run (w1:=w18) (v:= .agg #[.int .i64 0,.int .i64 3,.int .i64 1,.int .i64 0,.int .i64 1]) rfl TK ?_
 simp only [PT2]
 refine gate_guard TK ?_
 dsimp only
 refine Kd.event_run (w1:=w18.alloc (.cells #[.int .i64 97,.int .i64 (-3),.int .i64 (-2)] 3)) (v:= .slice (some ⟨w18.heap.size,0,none⟩) 3 3) rfl TK ?_
 simp only [PT2]
 obtain ⟨w19,hW_⟩: ∃ W_,w18.alloc (.cells #[.int .i64 97,.int .i64 (-3),.int .i64 (-2)] 3)=W_:=⟨_,rfl⟩
 have hb:Below w18.heap.size w18 w19:=by rw [← hW_];exact below_alloc (Below.refl _ _) _
 have hI:Aside0 (Kd.C (Kd.int .i64) w19 (some ⟨w18.heap.size,0,none⟩) 3 [97,(-3),(-2)]):=⟨by rw [← hW_];exact y_awake.lit_C _ _ _ [97,(-3),(-2)] (blk_new _ _) (by decide)⟩
 rw [hW_]
 have nB_:=Am (below_step HB.out hb)
 have nc_:=Am (Kd.C_below Hc.out hb)
 have nl_:=Am (Kd.C_below Hl.out hb)
 clear HB Hc Hl
 have HB:=nB_
 have Hc:=nc_
 have Hl:=nl_
 clear hb nB_ nc_ nl_
 clear hW_
 generalize w18.heap.size=gy at hI ⊢
 have Hy:=hI
 clear hI
 refine gate_guard TK ?_
 dsimp only
 refine goesL_ (some 32) rfl rfl Try.func16 TK rfl #[.slice Ac y_awake.xc.length cc,.slice (some ⟨gl,0,none⟩) 3 3,.agg #[.int .i64 0,.int .i64 3,.int .i64 1,.int .i64 0,.int .i64 1],.int .i64 0,.int .i64 3,.int .i64 2,.slice (some ⟨gy,0,none⟩) 3 3] rfl TK ?_
 refine (y_comes.calls 60 Ac cc y_awake.xc (some ⟨gl,0,none⟩) 3 [0,0,0] 0 3 1 0 1 0 3 2 (some ⟨gy,0,none⟩) 3 [97,(-3),(-2)] true _ Hc.out HCc.out Hl.out (Nat.le_refl _) Hy.out (Nat.le_refl _) y_awake.is3).mono ?_
 rintro e w20 ⟨rfl,hb⟩
 refine ⟨_,rfl,?_⟩
 simp only [PT2]
 clear Hl Hy
 clear Hc HCc
 have nB_:=Am (below_step HB.out hb)
 clear HB
 have HB:=nB_
 clear hb nB_
 refine Kd.event_run (w1:=w20) (v:= .bool true) rfl TK ?_
 simp only [PT2]
 refine Kd.event_run (w1:=w20) (v:= .bool true) rfl TK ?_
 simp only [PT2]
 refine gate_guard TK ?_
 dsimp only
 refine Kd.event_run (w1:=w20.alloc (.cells #[.int .i64 19968] 3)) (v:= .slice (some ⟨w20.heap.size,0,none⟩) 1 1) rfl TK ?_
 simp only [PT2]
 obtain ⟨w21,hW_⟩: ∃ W_,w20.alloc (.cells #[.int .i64 19968] 3)=W_:=⟨_,rfl⟩
 have hb:Below w20.heap.size w20 w21:=by rw [← hW_];exact below_alloc (Below.refl _ _) _
 have hI:Aside0 (Kd.C (Kd.int .i64) w21 (some ⟨w20.heap.size,0,none⟩) 1 [19968]):=⟨by rw [← hW_];exact y_awake.lit_C _ _ _ [19968] (blk_new _ _) (by decide)⟩
 rw [hW_]
 have nB_:=Am (below_step HB.out hb)
 clear HB
 have HB:=nB_
 clear hb nB_
 clear hW_
 generalize w20.heap.size=gx at hI ⊢
 have Hx:=hI
 clear hI
 refine gate_guard TK ?_
 dsimp only
 refine goesL_ (some 36) rfl rfl Try.func15 TK rfl #[.slice (some ⟨gx,0,none⟩) 1 1] rfl TK ?_
 refine (y_of.calls 60 (some ⟨gx,0,none⟩) 1 [19968] y_awake.xd _ Hx.out (Nat.le_refl _) y_awake.at_d).mono ?_
 rintro e w22 ⟨v_,rfl,ho,hb⟩
 obtain ⟨Ad,cd,rfl⟩:=Kd.R_slice ho
 obtain ⟨_,hc_,hr_⟩:=Kd.R_reads' ho
 refine ⟨_,rfl,?_⟩
 simp only [PT2]
 clear Hx ho
 have nB_:=Am (below_step HB.out hb)
 clear HB
 have HB:=nB_
 clear hb nB_
 have Hd:=Am hr_
 have HCd:=Am hc_
 clear hr_ hc_
 refine gate_guard TK ?_
 dsimp only
 refine Kd.event_run (w1:=w22.alloc (.cells #[.int .i64 0] 3)) (v:= .slice (some ⟨w22.heap.size,0,none⟩) 1 1) rfl TK ?_
 simp only [PT2]
 obtain ⟨w23,hW_⟩: ∃ W_,w22.alloc (.cells #[.int .i64 0] 3)=W_:=⟨_,rfl⟩
 have hb:Below w22.heap.size w22 w23:=by rw [← hW_];exact below_alloc (Below.refl _ _) _
 have hI:Aside0 (Kd.C (Kd.int .i64) w23 (some ⟨w22.heap.size,0,none⟩) 1 [0]):=⟨by rw [← hW_];exact y_awake.lit_C _ _ _ [0] (blk_new _ _) (by decide)⟩
 rw [hW_]
 have nB_:=Am (below_step HB.out hb)
 have nd_:=Am (Kd.C_below Hd.out hb)
 clear HB Hd
 have HB:=nB_
 have Hd:=nd_
 clear hb nB_ nd_
 clear hW_
 generalize w22.heap.size=gl at hI ⊢
 have Hl:=hI
 clear hI
 refine gate_guard TK ?_
 dsimp only
 refine Kd.event_run (w1:=w23) (v:= .agg #[.int .i64 0,.int .i64 1,.int .i64 1,.int .i64 0,.int .i64 0]) rfl TK ?_
 simp only [PT2]
 refine gate_guard TK ?_
 dsimp only
 refine Kd.event_run (w1:=w23.alloc (.cells #[.int .i64 (-2),.int .i64 19968,.int .i64 2117120] 3)) (v:= .slice (some ⟨w23.heap.size,0,none⟩) 3 3) rfl TK ?_
 simp only [PT2]
 obtain ⟨w24,hW_⟩: ∃ W_,w23.alloc (.cells #[.int .i64 (-2),.int .i64 19968,.int .i64 2117120] 3)=W_:=⟨_,rfl⟩
 have hb:Below w23.heap.size w23 w24:=by rw [← hW_];exact below_alloc (Below.refl _ _) _
 have hI:Aside0 (Kd.C (Kd.int .i64) w24 (some ⟨w23.heap.size,0,none⟩) 3 [(-2),19968,2117120]):=⟨by rw [← hW_];exact y_awake.lit_C _ _ _ [(-2),19968,2117120] (blk_new _ _) (by decide)⟩
 rw [hW_]
 have nB_:=Am (below_step HB.out hb)
 have nd_:=Am (Kd.C_below Hd.out hb)
 have nl_:=Am (Kd.C_below Hl.out hb)
 clear HB Hd Hl
 have HB:=nB_
 have Hd:=nd_
 have Hl:=nl_
 clear hb nB_ nd_ nl_
 clear hW_
 generalize w23.heap.size=gy at hI ⊢
 have Hy:=hI
 clear hI
 refine gate_guard TK ?_
 dsimp only
 refine goesL_ (some 40) rfl rfl Try.func16 TK rfl #[.slice Ad y_awake.xd.length cd,.slice (some ⟨gl,0,none⟩) 1 1,.agg #[.int .i64 0,.int .i64 1,.int .i64 1,.int .i64 0,.int .i64 0],.int .i64 0,.int .i64 3,.int .i64 3,.slice (some ⟨gy,0,none⟩) 3 3] rfl TK ?_
 refine (y_comes.calls 60 Ad cd y_awake.xd (some ⟨gl,0,none⟩) 1 [0] 0 1 1 0 0 0 3 3 (some ⟨gy,0,none⟩) 3 [(-2),19968,2117120] true _ Hd.out HCd.out Hl.out (Nat.le_refl _) Hy.out (Nat.le_refl _) y_awake.is4).mono ?_
 rintro e w25 ⟨rfl,hb⟩
 refine ⟨_,rfl,?_⟩
 simp only [PT2]
 clear Hl Hy
 clear Hd HCd
 have nB_:=Am (below_step HB.out hb)
 clear HB
 have HB:=nB_
 clear hb nB_
 refine Kd.event_run (w1:=w25) (v:= .bool true) rfl TK ?_
 simp only [PT2]
 refine Kd.event_run (w1:=w25) (v:= .bool true) rfl TK ?_
 simp only [PT2]
 refine wpList_nil ?_
 go_wp2
 go_ret
 exact ⟨rfl,HB.out⟩
end
def q05_in.l0:Nat→List Int→Int→Int→Option (Bool)
 | 0,_,_,_=>none
 | k+1,x0,x1,x5=>if x5 < (x0.length:Int) then (if 0≤x5 then (if (rd x0 x5)≤x1 then (if 0≤(wrap64 (x5+1)) then (if (wrap64 (x5+1)) < (x0.length:Int) then (if x1≤(rd x0 (wrap64 (x5+1))) then (some true) else (q05_in.l0 k x0 x1 (wrap64 (x5+2)))) else (none)) else (none)) else (q05_in.l0 k x0 x1 (wrap64 (x5+2)))) else (none)) else (some false)
def q05_in.f (k:Nat) (l0:List Int) (a1:Int):Option (Bool):=q05_in.l0 k l0 a1 0
theorem q05_in.mono_l: ∀ k,(∀ y0 y1 y2,LeO (q05_in.l0 k y0 y1 y2) (q05_in.l0 (k+1) y0 y1 y2))
 | 0=>fun _ _ _ r h=>by simp [q05_in.l0] at h
 | k+1=>by
  have ih0:=q05_in.mono_l k
  ·
   intros
   unfold q05_in.l0
   exact TL
theorem q05_in.mono: ∀ a0 a1 k,LeO (q05_in.f k a0 a1) (q05_in.f (k+1) a0 a1):=by
 intro a0 a1 k
 have ih0:=q05_in.mono_l k
 unfold q05_in.f
 repeat' first
   | (with_reducible exact ih0 _ _ _)
   | (with_reducible exact LeO.refl _)
   | (with_reducible exact LeO.none _)
   | (with_reducible refine LeO.ite ?_ ?_)
   | (with_reducible refine LeO.bind ?_ (fun _=>?_))
set_option maxHeartbeats 8000000 in
theorem q05_in.calls (k:Nat) (A0:Option Addr) (c0:Nat) (l0:List Int) (a1:Int) (r:Bool) (w:World) (hr0:Kd.C (Kd.int .i64) w A0 l0.length l0) (hc0:l0.length≤c0) (h:q05_in.f k l0 a1=some r) :
  Calls Try.prog 84 #[.slice A0 l0.length c0,.int .i64 a1] w fun e w'=>e= .returned (.bool r)∧Drawn0 w w':=by
 have HR0:=Am hr0
 have HC0:=Am hc0
 clear hr0 hc0
 have H:(q05_in.l0 k l0 a1 0)=some r:=h
 clear h
 have H':=Am H
 clear H
 go_enter Try.func84,Try.ntmps84
 go_wp2
 go_loopg [5] k (fun kq v5 w'=> ∃ (x5_1:Int),v5= .int .i64 x5_1∧Aside0 (q05_in.l0 kq l0 a1 x5_1=some r)∧Aside0 (kq≤k)∧Drawn0 w w')
 case atStart=>exact ⟨(0),TS,H',⟨Nat.le_refl _⟩,by repeat (first|exact Drawn0.refl _|apply Drawn0.step)⟩
 case round =>
  clear H'
  obtain ⟨x5_1,rfl,HA,HK1,⟨m1,rfl⟩⟩:=hrel
  cases gk with
  | zero=>exact absurd HA.out (by simp [q05_in.l0])
  | succ k1 =>
   have H:=HA.out
   clear HA
   simp only [q05_in.l0] at H
   by_cases c3:x5_1 < (l0.length:Int)
   rotate_left
   ·
    rw [if_neg c3] at H
    have c3b0:decide (x5_1 < (l0.length:Int))=false:=decide_eq_false c3
    clear c3
    obtain rfl:=Option.some.inj H
    go_wp2
    go_ret
    exact ⟨by first|rfl|(simp;done)|(simp [*];done),by repeat (first|exact Drawn0.refl _|apply Drawn0.step)⟩
   rw [if_pos c3] at H
   have c3b0:decide (x5_1 < (l0.length:Int))=true:=decide_eq_true c3
   clear c3
   obtain ⟨c4,H⟩:=ifS H
   have c4b0:decide (0≤x5_1)=true:=decide_eq_true c4
   clear c4
   by_cases c5:(rd l0 x5_1)≤a1
   rotate_left
   ·
    rw [if_neg c5] at H
    have c5b0:decide ((rd l0 x5_1)≤a1)=false:=decide_eq_false c5
    clear c5
    have H':=Am H
    clear H
    have p252:0≤(x5_1:Int):=tD
    have q252:x5_1 < (l0.length:Int):=tD
    obtain ⟨ad252,e252,hx252_0⟩:=Kd.at_int HR0.out x5_1 p252 q252
    cases e252
    replace p252:=eq_true p252
    replace q252:=eq_true q252
    go_wp2
    go_roundg k1
    case measure=>have:=HK1.out;omega
    case rel=>exact ⟨(wrap64 (x5_1+2)),TS,H',⟨by have:=HK1.out;omega⟩,by repeat (first|exact Drawn0.refl _|apply Drawn0.step)⟩
   rw [if_pos c5] at H
   have c5b0:decide ((rd l0 x5_1)≤a1)=true:=decide_eq_true c5
   clear c5
   obtain ⟨ji6,hji6⟩: ∃ j_:Int,(wrap64 (x5_1+1))=j_:=⟨_,rfl⟩
   replace H:(if 0≤(ji6) then (if (ji6) < (l0.length:Int) then (if a1≤(rd l0 (ji6)) then (some true) else (q05_in.l0 k1 l0 a1 (wrap64 (x5_1+2)))) else (none)) else (none))=some r:=by first|(rw [hji6] at H;exact H)|(simp only [hji6] at H ⊢;exact H)
   have hji6w:(IntKind.i64.wrap (x5_1+1))=ji6:=(i64_w _).trans hji6
   obtain ⟨c7,H⟩:=ifS H
   have c7b0:decide (0≤(ji6))=true:=decide_eq_true c7
   clear c7
   obtain ⟨c8,H⟩:=ifS H
   have c8b0:decide ((ji6) < (l0.length:Int))=true:=decide_eq_true c8
   clear c8
   by_cases c9:a1≤(rd l0 (ji6))
   ·
    rw [if_pos c9] at H
    have c9b0:decide (a1≤(rd l0 (ji6)))=true:=decide_eq_true c9
    clear c9
    obtain rfl:=Option.some.inj H
    have p252:0≤(x5_1:Int):=tD
    have q252:x5_1 < (l0.length:Int):=tD
    obtain ⟨ad252,e252,hx252_0⟩:=Kd.at_int HR0.out x5_1 p252 q252
    cases e252
    replace p252:=eq_true p252
    replace q252:=eq_true q252
    have p253:0≤((ji6):Int):=tD
    have q253:(ji6) < (l0.length:Int):=tD
    obtain ⟨ad253,e253,hx253_0⟩:=Kd.at_int HR0.out (ji6) p253 q253
    obtain rfl:ad252=ad253:=(by injection e253)
    replace p253:=eq_true p253
    replace q253:=eq_true q253
    go_wp2
    go_ret
    exact ⟨by first|rfl|(simp;done)|(simp only [← hji6] <;> (first|rfl|simp))|(simp [*];done),by repeat (first|exact Drawn0.refl _|apply Drawn0.step)⟩
   rw [if_neg c9] at H
   have c9b0:decide (a1≤(rd l0 (ji6)))=false:=decide_eq_false c9
   clear c9
   have H':=Am H
   clear H
   have p252:0≤(x5_1:Int):=tD
   have q252:x5_1 < (l0.length:Int):=tD
   obtain ⟨ad252,e252,hx252_0⟩:=Kd.at_int HR0.out x5_1 p252 q252
   cases e252
   replace p252:=eq_true p252
   replace q252:=eq_true q252
   have p253:0≤((ji6):Int):=tD
   have q253:(ji6) < (l0.length:Int):=tD
   obtain ⟨ad253,e253,hx253_0⟩:=Kd.at_int HR0.out (ji6) p253 q253
   obtain rfl:ad252=ad253:=(by injection e253)
   replace p253:=eq_true p253
   replace q253:=eq_true q253
   go_wp2
   go_roundg k1
   case measure=>have:=HK1.out;omega
   case rel=>exact ⟨(wrap64 (x5_1+2)),TS,H',⟨by have:=HK1.out;omega⟩,by repeat (first|exact Drawn0.refl _|apply Drawn0.step)⟩
def q05_Row.L1:List Int:=[13,13]
def q05_Row.L2:List Int:=[10,10]
def q05_Row.L5:List Int:=[8205,8205]
def q05_Row.L3:List Int:=[0,9,11,12,14,31,127,159,173,173,1564,1564,6158,6158,8203,8203,8206,8207,8232,8238,8288,8303,65279,65279,65520,65531,917504,917535,917632,917759]
def q05_Row.L4:List Int:=[768,879,1155,1161,1425,1469,1471,1471,1473,1474,1476,1477,1479,1479,1552,1562,1611,1631,1648,1648,1750,1756,1759,1764,1767,1768,1770,1773,2362,2362,2364,2364,2369,2376,2381,2381,2494,2494,3633,3633,3636,3642,3655,3662,6832,6862,7616,7679,8204,8204,8400,8432,12330,12335,12441,12442,42607,42610,64286,64286,65024,65039,65056,65071,65438,65439,127995,127999,917536,917631,917760,917999]
def q05_Row.L6:List Int:=[127462,127487]
def q05_Row.L7:List Int:=[1536,1541,1757,1757,1807,1807,2274,2274,3406,3406]
def q05_Row.L8:List Int:=[2307,2307,2363,2363,2366,2368,2377,2380,2382,2383,2434,2435,3635,3635,3763,3763]
def q05_Row.L9:List Int:=[4352,4447,43360,43388]
def q05_Row.L10:List Int:=[4448,4519,55216,55238]
def q05_Row.L11:List Int:=[4520,4607,55243,55291]
def q05_Row.f (a0:Int):Option (List Int):=if a0=1 then some q05_Row.L1 else if a0=2 then some q05_Row.L2 else if a0=5 then some q05_Row.L5 else if a0=3 then some q05_Row.L3 else if a0=4 then some q05_Row.L4 else if a0=6 then some q05_Row.L6 else if a0=7 then some q05_Row.L7 else if a0=8 then some q05_Row.L8 else if a0=9 then some q05_Row.L9 else if a0=10 then some q05_Row.L10 else if a0=11 then some q05_Row.L11 else some []
section
open Go.Proofs.YteoaegigjlhamaaH
set_option maxHeartbeats 4000000 in
theorem q05_Row.calls (a0:Int) (r:List Int) (w:World) (h:q05_Row.f a0=some r) :
  Calls Try.prog 85 #[.int .i64 a0] w fun e w'=> ∃ v0_:Value,e= .returned (v0_)∧Kd.R (Kd.int .i64) 3 w' w.heap.size (fun _=>True) v0_ r∧Below w.heap.size w w':=by
 have HB:=Am (Below.refl w.heap.size w)
 unfold q05_Row.f at h
 by_cases c1:a0=1
 ·
  subst c1
  obtain rfl:q05_Row.L1=r:=by simpa using h
  clear h
  go_enter Try.func85,Try.ntmps85
  go_wp2_with (first|((with_reducible refine gate_dst (N:=6) rfl ?_);refine row_event w.heap.size 3 rfl (N:=6) rfl 23 2 .i64 q05_Row.L1 ?ho TK Try.underlying23 TK TK (by decide) (by decide) HB.out (Nat.le_refl _) ?_;(case ho=>kernel_rfl);intro v1 w1 hO1 hB1 hg1 hb1;have HO:=Am hO1;have HB1:=Am hB1;clear hO1 hB1 hg1 hb1))
  go_ret
  exact ⟨_,rfl,HO.out,HB1.out⟩
 have b1:(a0==1)=false:=beq_eq_false_iff_ne.2 c1
 rw [if_neg c1] at h
 clear c1
 by_cases c2:a0=2
 ·
  subst c2
  obtain rfl:q05_Row.L2=r:=by simpa using h
  clear h
  go_enter Try.func85,Try.ntmps85
  go_wp2_with (first|((with_reducible refine gate_dst (N:=9) rfl ?_);refine row_event w.heap.size 3 rfl (N:=9) rfl 23 2 .i64 q05_Row.L2 ?ho TK Try.underlying23 TK TK (by decide) (by decide) HB.out (Nat.le_refl _) ?_;(case ho=>kernel_rfl);intro v1 w1 hO1 hB1 hg1 hb1;have HO:=Am hO1;have HB1:=Am hB1;clear hO1 hB1 hg1 hb1))
  go_ret
  exact ⟨_,rfl,HO.out,HB1.out⟩
 have b2:(a0==2)=false:=beq_eq_false_iff_ne.2 c2
 rw [if_neg c2] at h
 clear c2
 by_cases c5:a0=5
 ·
  subst c5
  obtain rfl:q05_Row.L5=r:=by simpa using h
  clear h
  go_enter Try.func85,Try.ntmps85
  go_wp2_with (first|((with_reducible refine gate_dst (N:=12) rfl ?_);refine row_event w.heap.size 3 rfl (N:=12) rfl 23 2 .i64 q05_Row.L5 ?ho TK Try.underlying23 TK TK (by decide) (by decide) HB.out (Nat.le_refl _) ?_;(case ho=>kernel_rfl);intro v1 w1 hO1 hB1 hg1 hb1;have HO:=Am hO1;have HB1:=Am hB1;clear hO1 hB1 hg1 hb1))
  go_ret
  exact ⟨_,rfl,HO.out,HB1.out⟩
 have b5:(a0==5)=false:=beq_eq_false_iff_ne.2 c5
 rw [if_neg c5] at h
 clear c5
 by_cases c3:a0=3
 ·
  subst c3
  obtain rfl:q05_Row.L3=r:=by simpa using h
  clear h
  go_enter Try.func85,Try.ntmps85
  go_wp2_with (first|((with_reducible refine gate_dst (N:=15) rfl ?_);refine row_event w.heap.size 3 rfl (N:=15) rfl 23 30 .i64 q05_Row.L3 ?ho TK Try.underlying23 TK TK (by decide) (by decide) HB.out (Nat.le_refl _) ?_;(case ho=>kernel_rfl);intro v1 w1 hO1 hB1 hg1 hb1;have HO:=Am hO1;have HB1:=Am hB1;clear hO1 hB1 hg1 hb1))
  go_ret
  exact ⟨_,rfl,HO.out,HB1.out⟩
 have b3:(a0==3)=false:=beq_eq_false_iff_ne.2 c3
 rw [if_neg c3] at h
 clear c3
 by_cases c4:a0=4
 ·
  subst c4
  obtain rfl:q05_Row.L4=r:=by simpa using h
  clear h
  go_enter Try.func85,Try.ntmps85
  go_wp2_with (first|((with_reducible refine gate_dst (N:=18) rfl ?_);refine row_event w.heap.size 3 rfl (N:=18) rfl 23 72 .i64 q05_Row.L4 ?ho TK Try.underlying23 TK TK (by decide) (by decide) HB.out (Nat.le_refl _) ?_;(case ho=>kernel_rfl);intro v1 w1 hO1 hB1 hg1 hb1;have HO:=Am hO1;have HB1:=Am hB1;clear hO1 hB1 hg1 hb1))
  go_ret
  exact ⟨_,rfl,HO.out,HB1.out⟩
 have b4:(a0==4)=false:=beq_eq_false_iff_ne.2 c4
 rw [if_neg c4] at h
 clear c4
 by_cases c6:a0=6
 ·
  subst c6
  obtain rfl:q05_Row.L6=r:=by simpa using h
  clear h
  go_enter Try.func85,Try.ntmps85
  go_wp2_with (first|((with_reducible refine gate_dst (N:=21) rfl ?_);refine row_event w.heap.size 3 rfl (N:=21) rfl 23 2 .i64 q05_Row.L6 ?ho TK Try.underlying23 TK TK (by decide) (by decide) HB.out (Nat.le_refl _) ?_;(case ho=>kernel_rfl);intro v1 w1 hO1 hB1 hg1 hb1;have HO:=Am hO1;have HB1:=Am hB1;clear hO1 hB1 hg1 hb1))
  go_ret
  exact ⟨_,rfl,HO.out,HB1.out⟩
 have b6:(a0==6)=false:=beq_eq_false_iff_ne.2 c6
 rw [if_neg c6] at h
 clear c6
 by_cases c7:a0=7
 ·
  subst c7
  obtain rfl:q05_Row.L7=r:=by simpa using h
  clear h
  go_enter Try.func85,Try.ntmps85
  go_wp2_with (first|((with_reducible refine gate_dst (N:=24) rfl ?_);refine row_event w.heap.size 3 rfl (N:=24) rfl 23 10 .i64 q05_Row.L7 ?ho TK Try.underlying23 TK TK (by decide) (by decide) HB.out (Nat.le_refl _) ?_;(case ho=>kernel_rfl);intro v1 w1 hO1 hB1 hg1 hb1;have HO:=Am hO1;have HB1:=Am hB1;clear hO1 hB1 hg1 hb1))
  go_ret
  exact ⟨_,rfl,HO.out,HB1.out⟩
 have b7:(a0==7)=false:=beq_eq_false_iff_ne.2 c7
 rw [if_neg c7] at h
 clear c7
 by_cases c8:a0=8
 ·
  subst c8
  obtain rfl:q05_Row.L8=r:=by simpa using h
  clear h
  go_enter Try.func85,Try.ntmps85
  go_wp2_with (first|((with_reducible refine gate_dst (N:=27) rfl ?_);refine row_event w.heap.size 3 rfl (N:=27) rfl 23 16 .i64 q05_Row.L8 ?ho TK Try.underlying23 TK TK (by decide) (by decide) HB.out (Nat.le_refl _) ?_;(case ho=>kernel_rfl);intro v1 w1 hO1 hB1 hg1 hb1;have HO:=Am hO1;have HB1:=Am hB1;clear hO1 hB1 hg1 hb1))
  go_ret
  exact ⟨_,rfl,HO.out,HB1.out⟩
 have b8:(a0==8)=false:=beq_eq_false_iff_ne.2 c8
 rw [if_neg c8] at h
 clear c8
 by_cases c9:a0=9
 ·
  subst c9
  obtain rfl:q05_Row.L9=r:=by simpa using h
  clear h
  go_enter Try.func85,Try.ntmps85
  go_wp2_with (first|((with_reducible refine gate_dst (N:=30) rfl ?_);refine row_event w.heap.size 3 rfl (N:=30) rfl 23 4 .i64 q05_Row.L9 ?ho TK Try.underlying23 TK TK (by decide) (by decide) HB.out (Nat.le_refl _) ?_;(case ho=>kernel_rfl);intro v1 w1 hO1 hB1 hg1 hb1;have HO:=Am hO1;have HB1:=Am hB1;clear hO1 hB1 hg1 hb1))
  go_ret
  exact ⟨_,rfl,HO.out,HB1.out⟩
 have b9:(a0==9)=false:=beq_eq_false_iff_ne.2 c9
 rw [if_neg c9] at h
 clear c9
 by_cases c10:a0=10
 ·
  subst c10
  obtain rfl:q05_Row.L10=r:=by simpa using h
  clear h
  go_enter Try.func85,Try.ntmps85
  go_wp2_with (first|((with_reducible refine gate_dst (N:=33) rfl ?_);refine row_event w.heap.size 3 rfl (N:=33) rfl 23 4 .i64 q05_Row.L10 ?ho TK Try.underlying23 TK TK (by decide) (by decide) HB.out (Nat.le_refl _) ?_;(case ho=>kernel_rfl);intro v1 w1 hO1 hB1 hg1 hb1;have HO:=Am hO1;have HB1:=Am hB1;clear hO1 hB1 hg1 hb1))
  go_ret
  exact ⟨_,rfl,HO.out,HB1.out⟩
 have b10:(a0==10)=false:=beq_eq_false_iff_ne.2 c10
 rw [if_neg c10] at h
 clear c10
 by_cases c11:a0=11
 ·
  subst c11
  obtain rfl:q05_Row.L11=r:=by simpa using h
  clear h
  go_enter Try.func85,Try.ntmps85
  go_wp2_with (first|((with_reducible refine gate_dst (N:=36) rfl ?_);refine row_event w.heap.size 3 rfl (N:=36) rfl 23 4 .i64 q05_Row.L11 ?ho TK Try.underlying23 TK TK (by decide) (by decide) HB.out (Nat.le_refl _) ?_;(case ho=>kernel_rfl);intro v1 w1 hO1 hB1 hg1 hb1;have HO:=Am hO1;have HB1:=Am hB1;clear hO1 hB1 hg1 hb1))
  go_ret
  exact ⟨_,rfl,HO.out,HB1.out⟩
 have b11:(a0==11)=false:=beq_eq_false_iff_ne.2 c11
 rw [if_neg c11] at h
 clear c11
 obtain rfl:[]=r:=by simpa using h
 clear h
 go_enter Try.func85,Try.ntmps85
 go_wp2
 go_ret
 exact ⟨_,rfl,Kd.R_nil _ _ _ _ _,HB.out⟩
end
mutual
def q05_Of.l0:Nat→Int→Int→Option (Int)
 | 0,_,_=>none
 | k+1,x0,x3=>if x3≤55203 then (if x0=x3 then (some 12) else (if x0 > x3 then (if x0 < (wrap64 (x3+28)) then (some 13) else (q05_Of.l0 k x0 (wrap64 (x3+28)))) else (q05_Of.l0 k x0 (wrap64 (x3+28))))) else (q05_Of.l1 k x0 1)
def q05_Of.l1:Nat→Int→Int→Option (Int)
 | 0,_,_=>none
 | k+1,x0,x4=>if x4 < 12 then ((q05_Row.f x4).bind fun t254=>((q05_in.f k t254 x0).bind fun t257=>(if t257=true then (some x4) else (q05_Of.l1 k x0 (wrap64 (x4+1)))))) else (some 0)
end
def q05_Of.f (k:Nat) (a0:Int):Option (Int):=q05_Of.l0 k a0 44032
theorem q05_Of.mono_l: ∀ k,(∀ y0 y1,LeO (q05_Of.l0 k y0 y1) (q05_Of.l0 (k+1) y0 y1))∧(∀ y0 y1,LeO (q05_Of.l1 k y0 y1) (q05_Of.l1 (k+1) y0 y1))
 | 0=>⟨fun _ _ r h=>by simp [q05_Of.l0] at h,fun _ _ r h=>by simp [q05_Of.l1] at h⟩
 | k+1=>by
  obtain ⟨ih0,ih1⟩:=q05_Of.mono_l k
  refine ⟨?_,?_⟩
  ·
   intros
   unfold q05_Of.l0
   have j0:=@q05_in.mono
   exact TL
  ·
   intros
   unfold q05_Of.l1
   have j0:=@q05_in.mono
   exact TL
theorem q05_Of.mono: ∀ a0 k,LeO (q05_Of.f k a0) (q05_Of.f (k+1) a0):=by
 intro a0 k
 obtain ⟨ih0,ih1⟩:=q05_Of.mono_l k
 unfold q05_Of.f
 repeat' first
   | (with_reducible exact ih0 _ _)
   | (with_reducible exact ih1 _ _)
   | (with_reducible exact q05_in.mono _ _ _)
   | (with_reducible exact LeO.refl _)
   | (with_reducible exact LeO.none _)
   | (with_reducible refine LeO.ite ?_ ?_)
   | (with_reducible refine LeO.bind ?_ (fun _=>?_))
set_option maxHeartbeats 8000000 in
theorem q05_Of.calls (k:Nat) (a0:Int) (r:Int) (w:World) (h:q05_Of.f k a0=some r) :
  Calls Try.prog 56 #[.int .i64 a0] w fun e w'=>e= .returned (.int .i64 r)∧Below w.heap.size w w':=by
 have HB:=Am (Below.refl w.heap.size w)
 have H:(q05_Of.l0 k a0 44032)=some r:=h
 clear h
 have H':=Am H
 clear H
 go_enter Try.func56,Try.ntmps56
 go_wp2
 go_loopg [3] k (fun kq v3 w'=> ∃ (x3_1:Int),v3= .int .i64 x3_1∧Aside0 (q05_Of.l0 kq a0 x3_1=some r)∧Aside0 (kq≤k)∧Aside0 (Below w.heap.size w w'))
 case atStart=>exact ⟨(44032),TS,H',⟨Nat.le_refl _⟩,⟨TB⟩⟩
 case round =>
  clear H'
  obtain ⟨x3_1,rfl,HA,HK1,HB⟩:=hrel
  cases gk with
  | zero=>exact absurd HA.out (by simp [q05_Of.l0])
  | succ k1 =>
   have H:=HA.out
   clear HA
   simp only [q05_Of.l0] at H
   by_cases c2:x3_1≤55203
   ·
    rw [if_pos c2] at H
    have c2b0:decide (x3_1≤55203)=true:=decide_eq_true c2
    clear c2
    by_cases c3:a0=x3_1
    ·
     rw [if_pos c3] at H
     have c3b0:(a0==x3_1)=true:=beq_iff_eq.mpr c3
     have c3b1:(a0 !=x3_1)=false:=bne_eq_false_iff_eq.mpr c3
     clear c3
     obtain rfl:=Option.some.inj H
     go_wp2
     go_ret
     exact ⟨TE,TB⟩
    rw [if_neg c3] at H
    have c3b0:(a0==x3_1)=false:=beq_eq_false_iff_ne.mpr c3
    have c3b1:(a0 !=x3_1)=true:=bne_iff_ne.mpr c3
    by_cases c4:a0 > x3_1
    rotate_left
    ·
     rw [if_neg c4] at H
     have c4b0:decide (x3_1 < a0)=false:=decide_eq_false c4
     clear c4
     have H':=Am H
     clear H
     go_wp2
     go_roundg k1
     case measure=>have:=HK1.out;omega
     case rel=>exact ⟨(wrap64 (x3_1+28)),TS,H',⟨by have:=HK1.out;omega⟩,⟨TB⟩⟩
    rw [if_pos c4] at H
    have c4b0:decide (x3_1 < a0)=true:=decide_eq_true c4
    clear c4
    by_cases c5:a0 < (wrap64 (x3_1+28))
    ·
     rw [if_pos c5] at H
     have c5b0:decide (a0 < (wrap64 (x3_1+28)))=true:=decide_eq_true c5
     clear c5
     obtain rfl:=Option.some.inj H
     go_wp2
     go_ret
     exact ⟨TE,TB⟩
    rw [if_neg c5] at H
    have c5b0:decide (a0 < (wrap64 (x3_1+28)))=false:=decide_eq_false c5
    clear c5
    have H':=Am H
    clear H
    go_wp2
    go_roundg k1
    case measure=>have:=HK1.out;omega
    case rel=>exact ⟨(wrap64 (x3_1+28)),TS,H',⟨by have:=HK1.out;omega⟩,⟨TB⟩⟩
   rw [if_neg c2] at H
   have c2b0:decide (x3_1≤55203)=false:=decide_eq_false c2
   clear c2
   have H':=Am H
   clear H
   go_wp2
   go_loopg [4] k1 (fun kq v4 w'=> ∃ (x4_2:Int),v4= .int .i64 x4_2∧Aside0 (q05_Of.l1 kq a0 x4_2=some r)∧Aside0 (kq≤k1)∧Aside0 (Below w.heap.size w w'))
   case atStart=>exact ⟨(1),TS,H',⟨Nat.le_refl _⟩,⟨TB⟩⟩
   case round =>
    clear H'
    obtain ⟨x4_2,rfl,HA,HK2,HB⟩:=hrel
    cases gk with
    | zero=>exact absurd HA.out (by simp [q05_Of.l1])
    | succ k2 =>
     have H:=HA.out
     clear HA
     simp only [q05_Of.l1] at H
     by_cases c6:x4_2 < 12
     rotate_left
     ·
      rw [if_neg c6] at H
      have c6b0:decide (x4_2 < 12)=false:=decide_eq_false c6
      clear c6
      obtain rfl:=Option.some.inj H
      go_wp2
      go_ret
      exact ⟨TE,TB⟩
     rw [if_pos c6] at H
     have c6b0:decide (x4_2 < 12)=true:=decide_eq_true c6
     clear c6
     obtain ⟨t254,A70,H⟩:=Option.bind_eq_some_iff.mp H
     try dsimp only at H
     have A7:=Am A70
     clear A70
     obtain ⟨t257,A80,H⟩:=Option.bind_eq_some_iff.mp H
     try dsimp only at H
     have A8:=Am A80
     clear A80
     by_cases c9:t257=true
     ·
      subst c9
      rw [if_pos rfl] at H
      obtain rfl:=Option.some.inj H
      go_wp2_with (first|((with_reducible refine gate_callee (f:=85) rfl ?_);refine goesL_ (some 26) rfl rfl Try.func85 TK rfl #[.int .i64 x4_2] rfl TM ?_;(with_reducible refine (q05_Row.calls x4_2 t254 _ A7.out).mono ?_);rintro e w10 ⟨v255,rfl,ho0,hb⟩;refine ⟨_,rfl,?_⟩;have HO256:=Am (Kd.R_lower ho0 (below_size TB));replace HB:=Am (below_step TB hb);(try clear hb);(try clear hb2);(try clear hk);(try clear hi);(try clear ho0);obtain ⟨Ao11,co11,eo11⟩:=Kd.R_slice HO256.out;subst eo11)|((with_reducible refine gate_callee (f:=84) rfl ?_);refine goesL_ (some 28) rfl rfl Try.func84 TK rfl #[.slice Ao11 t254.length co11,.int .i64 a0] rfl TM ?_;(with_reducible refine (q05_in.calls k2 _ _ t254 a0 true _ ?side1 ?side2 A8.out).mono ?_);(case side1=>exact CU ((Kd.R_reads' HO256.out).2.2));(case side2=>exact (Kd.R_reads' HO256.out).2.1);rintro e w' ⟨rfl,⟨nd,rfl⟩⟩;refine ⟨_,rfl,?_⟩))
      go_ret
      exact ⟨TE,TB⟩
     replace c9:=Bool.eq_false_iff.mpr c9
     subst c9
     rw [if_neg (show ¬ (false=true) by decide)] at H
     have H':=Am H
     clear H
     go_wp2_with (first|((with_reducible refine gate_callee (f:=85) rfl ?_);refine goesL_ (some 26) rfl rfl Try.func85 TK rfl #[.int .i64 x4_2] rfl TM ?_;(with_reducible refine (q05_Row.calls x4_2 t254 _ A7.out).mono ?_);rintro e w12 ⟨v255,rfl,ho0,hb⟩;refine ⟨_,rfl,?_⟩;have HO256:=Am (Kd.R_lower ho0 (below_size TB));replace HB:=Am (below_step TB hb);(try clear hb);(try clear hb2);(try clear hk);(try clear hi);(try clear ho0);obtain ⟨Ao13,co13,eo13⟩:=Kd.R_slice HO256.out;subst eo13)|((with_reducible refine gate_callee (f:=84) rfl ?_);refine goesL_ (some 28) rfl rfl Try.func84 TK rfl #[.slice Ao13 t254.length co13,.int .i64 a0] rfl TM ?_;(with_reducible refine (q05_in.calls k2 _ _ t254 a0 false _ ?side1 ?side2 A8.out).mono ?_);(case side1=>exact CU ((Kd.R_reads' HO256.out).2.2));(case side2=>exact (Kd.R_reads' HO256.out).2.1);rintro e w' ⟨rfl,⟨nd,rfl⟩⟩;refine ⟨_,rfl,?_⟩))
     go_roundg k2
     case measure=>have:=HK1.out;have:=HK2.out;omega
     case rel=>exact ⟨(wrap64 (x4_2+1)),TS,H',⟨by have:=HK1.out;have:=HK2.out;omega⟩,⟨TB⟩⟩
def q06_alone.f (a0:Int):Option (Bool):=if a0=1 then (some true) else (if a0=2 then (some true) else (some (a0==3)))
set_option maxHeartbeats 8000000 in
theorem q06_alone.calls (a0:Int) (r:Bool) (w:World) (h:q06_alone.f a0=some r) :
  Calls Try.prog 57 #[.int .i64 a0] w fun e w'=>e= .returned (.bool r)∧Drawn0 w w':=by
 have H:(if a0=1 then (some true) else (if a0=2 then (some true) else (some (a0==3))))=some r:=h
 clear h
 by_cases c2:a0=1
 ·
  rw [if_pos c2] at H
  have c2b0:(a0==1)=true:=beq_iff_eq.mpr c2
  have c2b1:(a0 !=1)=false:=bne_eq_false_iff_eq.mpr c2
  clear c2
  obtain rfl:=Option.some.inj H
  go_enter Try.func57,Try.ntmps57
  go_wp2
  go_ret
  exact ⟨by first|rfl|(simp;done)|(simp [*];done),by repeat (first|exact Drawn0.refl _|apply Drawn0.step)⟩
 rw [if_neg c2] at H
 have c2b0:(a0==1)=false:=beq_eq_false_iff_ne.mpr c2
 have c2b1:(a0 !=1)=true:=bne_iff_ne.mpr c2
 by_cases c3:a0=2
 rotate_left
 ·
  rw [if_neg c3] at H
  have c3b0:(a0==2)=false:=beq_eq_false_iff_ne.mpr c3
  have c3b1:(a0 !=2)=true:=bne_iff_ne.mpr c3
  obtain rfl:=Option.some.inj H
  go_enter Try.func57,Try.ntmps57
  go_wp2
  go_ret
  exact ⟨by first|rfl|(simp;done)|(simp [*];done),by repeat (first|exact Drawn0.refl _|apply Drawn0.step)⟩
 rw [if_pos c3] at H
 have c3b0:(a0==2)=true:=beq_iff_eq.mpr c3
 have c3b1:(a0 !=2)=false:=bne_eq_false_iff_eq.mpr c3
 clear c3
 obtain rfl:=Option.some.inj H
 go_enter Try.func57,Try.ntmps57
 go_wp2
 go_ret
 exact ⟨by first|rfl|(simp;done)|(simp [*];done),by repeat (first|exact Drawn0.refl _|apply Drawn0.step)⟩
def q06_syllable.f (a0:Int) (a1:Int):Option (Bool):=if a0=9 then (if a1=9 then (some true) else (if a1=10 then (some true) else (if a1=12 then (some true) else (some (a1==13))))) else (if a0=12 then (if a1=10 then (some true) else (some (a1==11))) else (if a0=10 then (if a1=10 then (some true) else (some (a1==11))) else (if a0=13 then (some (a1==11)) else (if a0=11 then (some (a1==11)) else (some false)))))
set_option maxHeartbeats 8000000 in
theorem q06_syllable.calls (a0:Int) (a1:Int) (r:Bool) (w:World) (h:q06_syllable.f a0 a1=some r) :
  Calls Try.prog 58 #[.int .i64 a0,.int .i64 a1] w fun e w'=>e= .returned (.bool r)∧Drawn0 w w':=by
 have H:(if a0=9 then (if a1=9 then (some true) else (if a1=10 then (some true) else (if a1=12 then (some true) else (some (a1==13))))) else (if a0=12 then (if a1=10 then (some true) else (some (a1==11))) else (if a0=10 then (if a1=10 then (some true) else (some (a1==11))) else (if a0=13 then (some (a1==11)) else (if a0=11 then (some (a1==11)) else (some false))))))=some r:=h
 clear h
 by_cases c3:a0=9
 ·
  rw [if_pos c3] at H
  have c3b0:(a0==9)=true:=beq_iff_eq.mpr c3
  have c3b1:(a0 !=9)=false:=bne_eq_false_iff_eq.mpr c3
  clear c3
  by_cases c4:a1=9
  ·
   rw [if_pos c4] at H
   have c4b0:(a1==9)=true:=beq_iff_eq.mpr c4
   have c4b1:(a1 !=9)=false:=bne_eq_false_iff_eq.mpr c4
   clear c4
   obtain rfl:=Option.some.inj H
   go_enter Try.func58,Try.ntmps58
   go_wp2
   go_ret
   exact ⟨by first|rfl|(simp;done)|(simp [*];done),by repeat (first|exact Drawn0.refl _|apply Drawn0.step)⟩
  rw [if_neg c4] at H
  have c4b0:(a1==9)=false:=beq_eq_false_iff_ne.mpr c4
  have c4b1:(a1 !=9)=true:=bne_iff_ne.mpr c4
  by_cases c5:a1=10
  ·
   rw [if_pos c5] at H
   have c5b0:(a1==10)=true:=beq_iff_eq.mpr c5
   have c5b1:(a1 !=10)=false:=bne_eq_false_iff_eq.mpr c5
   clear c5
   obtain rfl:=Option.some.inj H
   go_enter Try.func58,Try.ntmps58
   go_wp2
   go_ret
   exact ⟨by first|rfl|(simp;done)|(simp [*];done),by repeat (first|exact Drawn0.refl _|apply Drawn0.step)⟩
  rw [if_neg c5] at H
  have c5b0:(a1==10)=false:=beq_eq_false_iff_ne.mpr c5
  have c5b1:(a1 !=10)=true:=bne_iff_ne.mpr c5
  by_cases c6:a1=12
  rotate_left
  ·
   rw [if_neg c6] at H
   have c6b0:(a1==12)=false:=beq_eq_false_iff_ne.mpr c6
   have c6b1:(a1 !=12)=true:=bne_iff_ne.mpr c6
   obtain rfl:=Option.some.inj H
   go_enter Try.func58,Try.ntmps58
   go_wp2
   go_ret
   exact ⟨by first|rfl|(simp;done)|(simp [*];done),by repeat (first|exact Drawn0.refl _|apply Drawn0.step)⟩
  rw [if_pos c6] at H
  have c6b0:(a1==12)=true:=beq_iff_eq.mpr c6
  have c6b1:(a1 !=12)=false:=bne_eq_false_iff_eq.mpr c6
  clear c6
  obtain rfl:=Option.some.inj H
  go_enter Try.func58,Try.ntmps58
  go_wp2
  go_ret
  exact ⟨by first|rfl|(simp;done)|(simp [*];done),by repeat (first|exact Drawn0.refl _|apply Drawn0.step)⟩
 rw [if_neg c3] at H
 have c3b0:(a0==9)=false:=beq_eq_false_iff_ne.mpr c3
 have c3b1:(a0 !=9)=true:=bne_iff_ne.mpr c3
 by_cases c7:a0=12
 ·
  rw [if_pos c7] at H
  have c7b0:(a0==12)=true:=beq_iff_eq.mpr c7
  have c7b1:(a0 !=12)=false:=bne_eq_false_iff_eq.mpr c7
  clear c7
  by_cases c8:a1=10
  rotate_left
  ·
   rw [if_neg c8] at H
   have c8b0:(a1==10)=false:=beq_eq_false_iff_ne.mpr c8
   have c8b1:(a1 !=10)=true:=bne_iff_ne.mpr c8
   obtain rfl:=Option.some.inj H
   go_enter Try.func58,Try.ntmps58
   go_wp2
   go_ret
   exact ⟨by first|rfl|(simp;done)|(simp [*];done),by repeat (first|exact Drawn0.refl _|apply Drawn0.step)⟩
  rw [if_pos c8] at H
  have c8b0:(a1==10)=true:=beq_iff_eq.mpr c8
  have c8b1:(a1 !=10)=false:=bne_eq_false_iff_eq.mpr c8
  clear c8
  obtain rfl:=Option.some.inj H
  go_enter Try.func58,Try.ntmps58
  go_wp2
  go_ret
  exact ⟨by first|rfl|(simp;done)|(simp [*];done),by repeat (first|exact Drawn0.refl _|apply Drawn0.step)⟩
 rw [if_neg c7] at H
 have c7b0:(a0==12)=false:=beq_eq_false_iff_ne.mpr c7
 have c7b1:(a0 !=12)=true:=bne_iff_ne.mpr c7
 by_cases c9:a0=10
 ·
  rw [if_pos c9] at H
  have c9b0:(a0==10)=true:=beq_iff_eq.mpr c9
  have c9b1:(a0 !=10)=false:=bne_eq_false_iff_eq.mpr c9
  clear c9
  by_cases c10:a1=10
  rotate_left
  ·
   rw [if_neg c10] at H
   have c10b0:(a1==10)=false:=beq_eq_false_iff_ne.mpr c10
   have c10b1:(a1 !=10)=true:=bne_iff_ne.mpr c10
   obtain rfl:=Option.some.inj H
   go_enter Try.func58,Try.ntmps58
   go_wp2
   go_ret
   exact ⟨by first|rfl|(simp;done)|(simp [*];done),by repeat (first|exact Drawn0.refl _|apply Drawn0.step)⟩
  rw [if_pos c10] at H
  have c10b0:(a1==10)=true:=beq_iff_eq.mpr c10
  have c10b1:(a1 !=10)=false:=bne_eq_false_iff_eq.mpr c10
  clear c10
  obtain rfl:=Option.some.inj H
  go_enter Try.func58,Try.ntmps58
  go_wp2
  go_ret
  exact ⟨by first|rfl|(simp;done)|(simp [*];done),by repeat (first|exact Drawn0.refl _|apply Drawn0.step)⟩
 rw [if_neg c9] at H
 have c9b0:(a0==10)=false:=beq_eq_false_iff_ne.mpr c9
 have c9b1:(a0 !=10)=true:=bne_iff_ne.mpr c9
 by_cases c11:a0=13
 ·
  rw [if_pos c11] at H
  have c11b0:(a0==13)=true:=beq_iff_eq.mpr c11
  have c11b1:(a0 !=13)=false:=bne_eq_false_iff_eq.mpr c11
  clear c11
  obtain rfl:=Option.some.inj H
  go_enter Try.func58,Try.ntmps58
  go_wp2
  go_ret
  exact ⟨by first|rfl|(simp;done)|(simp [*];done),by repeat (first|exact Drawn0.refl _|apply Drawn0.step)⟩
 rw [if_neg c11] at H
 have c11b0:(a0==13)=false:=beq_eq_false_iff_ne.mpr c11
 have c11b1:(a0 !=13)=true:=bne_iff_ne.mpr c11
 by_cases c12:a0=11
 rotate_left
 ·
  rw [if_neg c12] at H
  have c12b0:(a0==11)=false:=beq_eq_false_iff_ne.mpr c12
  have c12b1:(a0 !=11)=true:=bne_iff_ne.mpr c12
  obtain rfl:=Option.some.inj H
  go_enter Try.func58,Try.ntmps58
  go_wp2
  go_ret
  exact ⟨by first|rfl|(simp;done)|(simp [*];done),by repeat (first|exact Drawn0.refl _|apply Drawn0.step)⟩
 rw [if_pos c12] at H
 have c12b0:(a0==11)=true:=beq_iff_eq.mpr c12
 have c12b1:(a0 !=11)=false:=bne_eq_false_iff_eq.mpr c12
 clear c12
 obtain rfl:=Option.some.inj H
 go_enter Try.func58,Try.ntmps58
 go_wp2
 go_ret
 exact ⟨by first|rfl|(simp;done)|(simp [*];done),by repeat (first|exact Drawn0.refl _|apply Drawn0.step)⟩
def q05_Picts.L:List Int:=[169,169,174,174,8252,8252,8265,8265,8482,8482,8505,8505,8596,8601,8617,8618,8986,8987,9000,9000,9167,9167,9193,9203,9208,9210,9410,9410,9642,9643,9654,9654,9664,9664,9723,9726,9728,9733,9735,9746,9748,9861,9872,9989,9992,10002,10004,10004,10006,10006,10013,10013,10017,10017,10024,10024,10035,10036,10052,10052,10055,10055,10060,10060,10062,10062,10067,10069,10071,10071,10083,10087,10133,10135,10145,10145,10160,10160,10175,10175,10548,10549,11013,11015,11035,11036,11088,11088,11093,11093,12336,12336,12349,12349,12951,12951,12953,12953,126976,127231,127245,127247,127279,127279,127340,127345,127358,127359,127374,127374,127377,127386,127405,127461,127489,127503,127514,127514,127535,127535,127538,127546,127548,127551,127561,127994,128000,128317,128326,128591,128640,128767,128884,128895,128981,129023,129036,129039,129096,129103,129114,129119,129160,129167,129198,129279,129292,129338,129340,129349,129351,129791,130048,131069]
def q05_Picts.f:Option (List Int):=some q05_Picts.L
section
open Go.Proofs.YteoaegigjlhamaaH
set_option maxHeartbeats 4000000 in
theorem q05_Picts.calls (r:List Int) (w:World) (h:q05_Picts.f=some r) :
  Calls Try.prog 86 #[] w fun e w'=> ∃ v0_:Value,e= .returned (v0_)∧Kd.R (Kd.int .i64) 3 w' w.heap.size (fun _=>True) v0_ r∧Below w.heap.size w w':=by
 have HB:=Am (Below.refl w.heap.size w)
 obtain rfl:q05_Picts.L=r:=Option.some.inj h
 clear h
 go_enter Try.func86,Try.ntmps86
 go_wp2_with (first|((with_reducible refine gate_dst (N:=1) rfl ?_);refine row_event w.heap.size 3 rfl (N:=1) rfl 23 154 .i64 q05_Picts.L ?ho TK Try.underlying23 TK TK (by decide) (by decide) HB.out (Nat.le_refl _) ?_;(case ho=>kernel_rfl);intro v1 w1 hO1 hB1 hg1 hb1;have HO:=Am hO1;have HB1:=Am hB1;clear hO1 hB1 hg1 hb1))
 go_ret
 exact ⟨_,rfl,HO.out,HB1.out⟩
end
def q05_Pict.f (k:Nat) (a0:Int):Option (Bool):=(q05_Picts.f).bind fun t258=>((q05_in.f k t258 a0).bind fun t261=>(some t261))
theorem q05_Pict.mono: ∀ a0 k,LeO (q05_Pict.f k a0) (q05_Pict.f (k+1) a0):=by
 intros
 unfold q05_Pict.f
 have j0:=@q05_in.mono
 exact TL
set_option maxHeartbeats 8000000 in
theorem q05_Pict.calls (k:Nat) (a0:Int) (r:Bool) (w:World) (h:q05_Pict.f k a0=some r) :
  Calls Try.prog 59 #[.int .i64 a0] w fun e w'=>e= .returned (.bool r)∧Below w.heap.size w w':=by
 have HB:=Am (Below.refl w.heap.size w)
 have H:((q05_Picts.f).bind fun t258=>((q05_in.f k t258 a0).bind fun t261=>(some t261)))=some r:=h
 clear h
 obtain ⟨t258,A20,H⟩:=Option.bind_eq_some_iff.mp H
 try dsimp only at H
 have A2:=Am A20
 clear A20
 obtain ⟨t261,A30,H⟩:=Option.bind_eq_some_iff.mp H
 try dsimp only at H
 have A3:=Am A30
 clear A30
 obtain rfl:=Option.some.inj H
 go_enter Try.func59,Try.ntmps59
 go_wp2_with (first|((with_reducible refine gate_callee (f:=86) rfl ?_);refine goesL_ (some 3) rfl rfl Try.func86 TK rfl #[] rfl TM ?_;(with_reducible refine (q05_Picts.calls t258 _ A2.out).mono ?_);rintro e w4 ⟨v259,rfl,ho0,hb⟩;refine ⟨_,rfl,?_⟩;have HO260:=Am (Kd.R_lower ho0 (below_size TB));replace HB:=Am (below_step TB hb);(try clear hb);(try clear hb2);(try clear hk);(try clear hi);(try clear ho0);obtain ⟨Ao5,co5,eo5⟩:=Kd.R_slice HO260.out;subst eo5)|((with_reducible refine gate_callee (f:=84) rfl ?_);refine goesL_ (some 5) rfl rfl Try.func84 TK rfl #[.slice Ao5 t258.length co5,.int .i64 a0] rfl TM ?_;(with_reducible refine (q05_in.calls k _ _ t258 a0 t261 _ ?side1 ?side2 A3.out).mono ?_);(case side1=>exact CU ((Kd.R_reads' HO260.out).2.2));(case side2=>exact (Kd.R_reads' HO260.out).2.1);rintro e w' ⟨rfl,⟨nd,rfl⟩⟩;refine ⟨_,rfl,?_⟩))
 go_ret
 exact ⟨TE,TB⟩
end Go.Proofs.Yteoaegigjlhamaa.PC19
