/- Chapter 19, printed: what the functions compute, and proofs that they do. -/
import Derived.Test.YteoaegigjlhamaaPC19x0
import Derived.Test.YteoaegigjlhamaaPC19x3
import Derived.Test.YteoaegigjlhamaaPC19x4
namespace Go.Proofs.Yteoaegigjlhamaa.PC19
open Go.RowKit Go.Proofs.YteoaegigjlhamaaW.PrintWords Go.Proofs.YteoaegigjlhamaaW.PrintLast Go.Proofs.YteoaegigjlhamaaW.PrintMore
attribute [local go_sem] max2_int min2_int max_two min_two max_three min_three max_four min_four
set_option linter.unusedVariables false
set_option maxRecDepth 100000
set_option linter.unusedSimpArgs false
def place_begin.f (l0:List (S36)) (l1:List Int) (a2_0:Int) (a2_1:Int) (a2_2:Int) (a2_3:Int) (a2_4:Int) (a3:Int):Option (Int × Int × Int × Int × Int × (List (S40)) × List Int × Int × Bool):=(cluster_Of.f l0).bind fun t123=>((place_has.f a2_0 a2_1 a2_2 a2_3 a2_4 (t123.length:Int)).bind fun t127=>(if t127=true then (if a2_0 < a2_1 then (if 0≤(wrap64 (a2_1 - 1)) then (if (wrap64 (a2_1 - 1)) < (t123.length:Int) then (if 0≤a2_0 then (if a2_0 < (t123.length:Int) then (if 0≤((rd_T40 t123 a2_0).f2) then (if ((rd_T40 t123 a2_0).f2)≤((rd_T40 t123 (wrap64 (a2_1 - 1))).f3) then (if ((rd_T40 t123 (wrap64 (a2_1 - 1))).f3)≤(l0.length:Int) then (if ((rd_T40 t123 (wrap64 (a2_1 - 1))).f3)≤(l1.length:Int) then ((bidi_Line.f ((l0.take (((rd_T40 t123 (wrap64 (a2_1 - 1))).f3):Int).toNat).drop (((rd_T40 t123 a2_0).f2):Int).toNat) ((l1.take (((rd_T40 t123 (wrap64 (a2_1 - 1))).f3):Int).toNat).drop (((rd_T40 t123 a2_0).f2):Int).toNat) a3).bind fun t135=>(some (a2_0,a2_1,a2_2,a2_3,a2_4,t123,t135,(rd_T40 t123 a2_0).f2,true))) else (none)) else (none)) else (none)) else (none)) else (none)) else (none)) else (none)) else (none)) else (some (a2_0,a2_1,a2_2,a2_3,a2_4,t123,([]:List Int),0,true))) else (some (0,0,0,0,0,([]:List (S40)),([]:List Int),0,false))))
def place_begin.T7:Bool × List (List Nat × List Nat):=(true,[([],[]),([],[]),([1],[1]),([],[]),([0,2,3],[0,2,3]),([],[]),([],[]),([6],[6]),([],[]),([5,7,8],[5,7,8]),([],[]),([4,9,10],[4,9,10]),([0,1,2,3,4,5,6,7,8,9,10,11],[]),([12,11,11,0,1,2,3,4,5,6,7,8,9,10,11],[11,12])])
def place_begin.B7:List Nat:=[0,0,2,0,15,0,0,64,0,480,0,2047,4095,8191]
theorem place_begin.tab7:rtab .any (opsOf Try.f17 7)=place_begin.T7:=by kernel_rfl
theorem place_begin.bits7:waitsOk place_begin.T7.2 place_begin.B7=true:=by kernel_rfl
set_option maxHeartbeats 8000000 in
theorem place_begin.calls (A0:Option Addr) (c0:Nat) (l0:List (S36)) (A1:Option Addr) (c1:Nat) (l1:List Int) (a2_0:Int) (a2_1:Int) (a2_2:Int) (a2_3:Int) (a2_4:Int) (a3:Int) (r1:Int) (r2:Int) (r3:Int) (r4:Int) (r5:Int) (r6:List (S40)) (r7:List Int) (r8:Int) (r9:Bool) (w:World) (hr0:Kd.C k36 w A0 l0.length l0) (hc0:l0.length≤c0) (hr1:Kd.C (Kd.int .i64) w A1 l1.length l1) (hc1:l1.length≤c1) (h:place_begin.f l0 l1 a2_0 a2_1 a2_2 a2_3 a2_4 a3=some (r1,r2,r3,r4,r5,r6,r7,r8,r9)) :
  Calls Try.prog 17 #[.slice A0 l0.length c0,.slice A1 l1.length c1,.agg #[.int .i64 a2_0,.int .i64 a2_1,.int .i64 a2_2,.int .i64 a2_3,.int .i64 a2_4],.int .i64 a3] w fun e w'=> ∃ v5_ v6_:Value,e= .returned (.tuple #[.agg #[.int .i64 r1,.int .i64 r2,.int .i64 r3,.int .i64 r4,.int .i64 r5,v5_,v6_,.int .i64 r8],.bool r9])∧Kd.R k40 40 w' w.heap.size (fun _=>True) v5_ r6∧Kd.R (Kd.int .i64) 3 w' w.heap.size (fun _=>True) v6_ r7∧Below w.heap.size w w':=by
 have hu25:=Try.underlying25
 have hu50:=Try.underlying50
 have HR0:=Am hr0
 have HC0:=Am hc0
 clear hr0 hc0
 have HR1:=Am hr1
 have HC1:=Am hc1
 clear hr1 hc1
 have HB:=Am (Below.refl w.heap.size w)
 have H:((cluster_Of.f l0).bind fun t123=>((place_has.f a2_0 a2_1 a2_2 a2_3 a2_4 (t123.length:Int)).bind fun t127=>(if t127=true then (if a2_0 < a2_1 then (if 0≤(wrap64 (a2_1 - 1)) then (if (wrap64 (a2_1 - 1)) < (t123.length:Int) then (if 0≤a2_0 then (if a2_0 < (t123.length:Int) then (if 0≤((rd_T40 t123 a2_0).f2) then (if ((rd_T40 t123 a2_0).f2)≤((rd_T40 t123 (wrap64 (a2_1 - 1))).f3) then (if ((rd_T40 t123 (wrap64 (a2_1 - 1))).f3)≤(l0.length:Int) then (if ((rd_T40 t123 (wrap64 (a2_1 - 1))).f3)≤(l1.length:Int) then ((bidi_Line.f ((l0.take (((rd_T40 t123 (wrap64 (a2_1 - 1))).f3):Int).toNat).drop (((rd_T40 t123 a2_0).f2):Int).toNat) ((l1.take (((rd_T40 t123 (wrap64 (a2_1 - 1))).f3):Int).toNat).drop (((rd_T40 t123 a2_0).f2):Int).toNat) a3).bind fun t135=>(some (a2_0,a2_1,a2_2,a2_3,a2_4,t123,t135,(rd_T40 t123 a2_0).f2,true))) else (none)) else (none)) else (none)) else (none)) else (none)) else (none)) else (none)) else (none)) else (some (a2_0,a2_1,a2_2,a2_3,a2_4,t123,([]:List Int),0,true))) else (some (0,0,0,0,0,([]:List (S40)),([]:List Int),0,false)))))=some (r1,r2,r3,r4,r5,r6,r7,r8,r9):=h
 clear h
 obtain ⟨t123,A50,H⟩:=Option.bind_eq_some_iff.mp H
 try dsimp only at H
 have A5:=Am A50
 clear A50
 obtain ⟨t127,A60,H⟩:=Option.bind_eq_some_iff.mp H
 try dsimp only at H
 have A6:=Am A60
 clear A60
 go_enter Try.func17,Try.ntmps17
 try go_wp2_with (first|((with_reducible refine gate_dst (N:=6) rfl ?_);refine box_event ?hg (N:=6) ?hd (cs:= #[.int .i64 a2_0,.int .i64 a2_1,.int .i64 a2_2,.int .i64 a2_3,.int .i64 a2_4]) (t:=25) ?hr ?_;(case hd=>rfl);(case hg=>rfl);(case hr=>exact TG);intro gb121 hg w21 hbox hb;have BK121:=Am (hbox);have GW121:=Am (gwS hg);have GE121:=Am (gwS hg);replace HB:=Am (below_step TB hb);clear hb hbox hg)|((with_reducible refine gate_dst (N:=8) rfl ?_);refine box_event ?hg (N:=8) ?hd (cs:= #[.int .i64 0,.int .i64 0,.int .i64 0,.int .i64 0,.int .i64 0,.slice none 0 0,.slice none 0 0,.int .i64 0]) (t:=50) ?hr ?_;(case hd=>rfl);(case hg=>rfl);(case hr=>exact TG);intro gb122 hg w22 hbox hb;have BK122:=Am (hbox);have GW122:=Am (gwS hg);have GE122:=Am (gwS hg);have NB121_122:=Am (ltS hg (blkU BK121.out));have NB122_121:=Am (gtS hg (blkU BK121.out));replace BK121:=Am (blk_below (blkU BK121.out) hb);replace HB:=Am (below_step TB hb);clear hb hbox hg))
 replace BK121:=Am (blk_drew BK121.out)
 replace BK122:=Am (blk_drew BK122.out)
 replace HB:=Am (below_drew1 HB.out)
 refine start_ (n:=6) (S:=fun w'=>w'.cell? ⟨gb121,0,none⟩=some (.int .i64 a2_0)∧w'.cell? ⟨gb121,1,none⟩=some (.int .i64 a2_1)∧w'.cell? ⟨gb121,2,none⟩=some (.int .i64 a2_2)∧w'.cell? ⟨gb121,3,none⟩=some (.int .i64 a2_3)∧w'.cell? ⟨gb121,4,none⟩=some (.int .i64 a2_4)) (ds:=[]) (bl 6 0) TK rfl rfl ⟨(blk_cell BK121.out 0).trans rfl,(blk_cell BK121.out 1).trans rfl,(blk_cell BK121.out 2).trans rfl,(blk_cell BK121.out 3).trans rfl,(blk_cell BK121.out 4).trans rfl⟩ (fun hHeld=>?_)
 generalize w22.drew=w23 at BK121 BK122 HB hHeld ⊢
 refine pureS (i:=1) (N:=some 13) (bl 6 2) rfl rfl TK ?_
 refine take_ (i:=0) (N:=some 12) (v:=?_) (a':=?_) (bl 6 3) rfl rfl TK (fun _ _ _ h=>h) (Or.inl ⟨by rfl,?_⟩) hHeld ?_ ?_
 rotate_left
 ·
  rintro w' ⟨s0,s1,s2,s3,s4⟩
  go_simp
  with_reducible rfl
 rotate_left
 ·
  simp only [PT]
  rfl
 refine join_ (σ:=Value × Nat) 1 (bl 6 31) (fun s_=>[(14,s_.1),(10,.pointer (some ⟨s_.2,0,none⟩)),(15,.agg #[.int .i64 a2_0,.int .i64 a2_1,.int .i64 a2_2,.int .i64 a2_3,.int .i64 a2_4,s_.1,.slice none 0 0,.int .i64 0])]) (fun s_ w'=>(w'.cell? ⟨gb121,0,none⟩=some (.int .i64 a2_0)∧w'.cell? ⟨gb121,1,none⟩=some (.int .i64 a2_1)∧w'.cell? ⟨gb121,2,none⟩=some (.int .i64 a2_2)∧w'.cell? ⟨gb121,3,none⟩=some (.int .i64 a2_3)∧w'.cell? ⟨gb121,4,none⟩=some (.int .i64 a2_4))∧(Kd.R k40 40 w' w.heap.size (fun _=>True) s_.1 t123)∧(w'.heap[gb121]?=some (.cells #[.int .i64 a2_0,.int .i64 a2_1,.int .i64 a2_2,.int .i64 a2_3,.int .i64 a2_4] 25 (0,0)))∧(w'.heap[gb122]?=some (.cells #[.int .i64 0,.int .i64 0,.int .i64 0,.int .i64 0,.int .i64 0,.slice none 0 0,.slice none 0 0,.int .i64 0] 50 (0,0)))∧(w'.heap[s_.2]?=some (.cells #[.int .i64 0,.int .i64 0,.int .i64 0,.int .i64 0,.int .i64 0,.slice none 0 0,.slice none 0 0,.int .i64 0] 50 (0,0)))∧(w.heap.size≤s_.2)∧(w.heap.size≤s_.2)∧(gb121≠s_.2)∧(s_.2≠gb121)∧(gb122≠s_.2)∧(s_.2≠gb122)∧(Below w.heap.size w w')) ?_ ?_
 rotate_left
 ·
  intro hCont
  refine two_ (i:=2) (j:=4) (Ni:=some 14) (Nj:=some 10) (bl 6 7) (bl 6 19) rfl rfl rfl rfl TK (by decide) (by decide) (fun K hK=>?_) (fun K hK=>?_)
  ·
   skip
   refine goes_ Try.func13 TK rfl #[.slice A0 l0.length c0] (by rfl) rfl rfl TM ?_
   with_reducible refine (cluster_Of.calls _ _ l0 t123 _ ?side1 ?side2 A5.out).mono ?_
   (case side1=>exact CU (Kd.C_below HR0.out HB.out))
   (case side2=>exact HC0.out)
   rintro e w24 ⟨v124,rfl,ho0,hb⟩
   refine ⟨_,rfl,?_⟩
   have HO125:=Am (Kd.R_lower ho0 (below_size TB))
   replace BK121:=Am (blk_below (blkU BK121.out) hb)
   replace BK122:=Am (blk_below (blkU BK122.out) hb)
   replace HB:=Am (below_step TB hb)
   (try clear hb)
   (try clear hb2)
   (try clear hk)
   (try clear hi)
   (try clear ho0)
   obtain ⟨Ao25,co25,eo25⟩:=Kd.R_slice HO125.out
   (first|subst eo25|(injection eo25 with f1_ f2_ f3_;have f4_:=f1_.symm;have f5_:=f3_.symm;clear f1_ f2_ f3_;subst f4_;subst f5_))
   refine hK.out _ _ ⟨(blk_cell BK121.out 0).trans rfl,(blk_cell BK121.out 1).trans rfl,(blk_cell BK121.out 2).trans rfl,(blk_cell BK121.out 3).trans rfl,(blk_cell BK121.out 4).trans rfl⟩ (fun hHeld=>?_)
   clear hK K
   refine norm_ (a':=?_) ?_ ?_
   rotate_left
   ·
    show Act.put _ (some 14) _=_
    simp only [PT]
    rfl
   refine pureS (i:=3) (N:=some 15) (bl 6 15) rfl rfl TK ?_
   refine one_ (i:=4) (N:=some 10) (bl 6 31) rfl rfl TK (by decide) (fun K hK=>?_)
   refine box_step ?hg (N:=10) ?hd (cs:= #[.int .i64 0,.int .i64 0,.int .i64 0,.int .i64 0,.int .i64 0,.slice none 0 0,.slice none 0 0,.int .i64 0]) (t:=50) ?hr ?_;(case hd=>rfl);(case hg=>rfl);(case hr=>exact TG)
   intro gb126 hg w26 hbox hb
   replace HO125:=Am (Kd.R_below (RU HO125.out) hb)
   have BK126:=Am (hbox)
   have GW126:=Am (gwS hg)
   have GE126:=Am (gwS hg)
   have NB121_126:=Am (ltS hg (blkU BK121.out))
   have NB126_121:=Am (gtS hg (blkU BK121.out))
   replace BK121:=Am (blk_below (blkU BK121.out) hb)
   have NB122_126:=Am (ltS hg (blkU BK122.out))
   have NB126_122:=Am (gtS hg (blkU BK122.out))
   replace BK122:=Am (blk_below (blkU BK122.out) hb)
   replace HB:=Am (below_step TB hb)
   clear hb hbox hg
   refine hK.out _ _ ⟨(blk_cell BK121.out 0).trans rfl,(blk_cell BK121.out 1).trans rfl,(blk_cell BK121.out 2).trans rfl,(blk_cell BK121.out 3).trans rfl,(blk_cell BK121.out 4).trans rfl⟩ (fun hHeld=>?_)
   clear hK K
   refine norm_ (a':=?_) ?_ ?_
   rotate_left
   ·
    show Act.put _ (some 10) _=_
    simp only [PT]
    rfl
   exact norm_ (by simp only [putAll,Act.put,List.setIfInBounds_toArray,List.set_cons_zero,List.set_cons_succ]) (hCont (.slice Ao25 t123.length co25,gb126) _ ⟨hHeld,(RU HO125.out),(blkU BK121.out),(blkU BK122.out),(blkU BK126.out),GW126.out,GE126.out,NB121_126.out,NB126_121.out,NB122_126.out,NB126_122.out,TB⟩)
  ·
   skip
   refine box_step ?hg (N:=10) ?hd (cs:= #[.int .i64 0,.int .i64 0,.int .i64 0,.int .i64 0,.int .i64 0,.slice none 0 0,.slice none 0 0,.int .i64 0]) (t:=50) ?hr ?_;(case hd=>rfl);(case hg=>rfl);(case hr=>exact TG)
   intro gb126 hg w24 hbox hb
   have BK126:=Am (hbox)
   have GW126:=Am (gwS hg)
   have GE126:=Am (gwS hg)
   have NB121_126:=Am (ltS hg (blkU BK121.out))
   have NB126_121:=Am (gtS hg (blkU BK121.out))
   replace BK121:=Am (blk_below (blkU BK121.out) hb)
   have NB122_126:=Am (ltS hg (blkU BK122.out))
   have NB126_122:=Am (gtS hg (blkU BK122.out))
   replace BK122:=Am (blk_below (blkU BK122.out) hb)
   replace HB:=Am (below_step TB hb)
   clear hb hbox hg
   refine hK.out _ _ ⟨(blk_cell BK121.out 0).trans rfl,(blk_cell BK121.out 1).trans rfl,(blk_cell BK121.out 2).trans rfl,(blk_cell BK121.out 3).trans rfl,(blk_cell BK121.out 4).trans rfl⟩ (fun hHeld=>?_)
   clear hK K
   refine norm_ (a':=?_) ?_ ?_
   rotate_left
   ·
    show Act.put _ (some 10) _=_
    simp only [PT]
    rfl
   refine one_ (i:=2) (N:=some 14) (bl 6 23) rfl rfl TK (by decide) (fun K hK=>?_)
   refine goes_ Try.func13 TK rfl #[.slice A0 l0.length c0] (by rfl) rfl rfl TM ?_
   with_reducible refine (cluster_Of.calls _ _ l0 t123 _ ?side1 ?side2 A5.out).mono ?_
   (case side1=>exact CU (Kd.C_below HR0.out HB.out))
   (case side2=>exact HC0.out)
   rintro e w25 ⟨v124,rfl,ho0,hb⟩
   refine ⟨_,rfl,?_⟩
   have HO125:=Am (Kd.R_lower ho0 (below_size TB))
   replace BK121:=Am (blk_below (blkU BK121.out) hb)
   replace BK122:=Am (blk_below (blkU BK122.out) hb)
   replace BK126:=Am (blk_below (blkU BK126.out) hb)
   replace HB:=Am (below_step TB hb)
   (try clear hb)
   (try clear hb2)
   (try clear hk)
   (try clear hi)
   (try clear ho0)
   obtain ⟨Ao26,co26,eo26⟩:=Kd.R_slice HO125.out
   (first|subst eo26|(injection eo26 with f1_ f2_ f3_;have f4_:=f1_.symm;have f5_:=f3_.symm;clear f1_ f2_ f3_;subst f4_;subst f5_))
   refine hK.out _ _ ⟨(blk_cell BK121.out 0).trans rfl,(blk_cell BK121.out 1).trans rfl,(blk_cell BK121.out 2).trans rfl,(blk_cell BK121.out 3).trans rfl,(blk_cell BK121.out 4).trans rfl⟩ (fun hHeld=>?_)
   clear hK K
   refine norm_ (a':=?_) ?_ ?_
   rotate_left
   ·
    show Act.put _ (some 14) _=_
    simp only [PT]
    rfl
   refine pureS (i:=3) (N:=some 15) (bl 6 31) rfl rfl TK ?_
   exact norm_ (by simp only [putAll,Act.put,List.setIfInBounds_toArray,List.set_cons_zero,List.set_cons_succ]) (hCont (.slice Ao26 t123.length co26,gb126) _ ⟨hHeld,(RU HO125.out),(blkU BK121.out),(blkU BK122.out),(blkU BK126.out),GW126.out,GE126.out,NB121_126.out,NB126_121.out,NB122_126.out,NB126_122.out,TB⟩)
 rintro ⟨v124,gb126⟩ w27 ⟨hS_,h0_,h1_,h2_,h3_,h4_,h5_,h6_,h7_,h8_,h9_,h10_⟩
 have HO125:Aside0 (Kd.R k40 40 w27 w.heap.size (fun _=>True) v124 t123):=⟨h0_⟩
 replace BK121:Aside0 (w27.heap[gb121]?=some (.cells #[.int .i64 a2_0,.int .i64 a2_1,.int .i64 a2_2,.int .i64 a2_3,.int .i64 a2_4] 25 (0,0))):=⟨h1_⟩
 replace BK122:Aside0 (w27.heap[gb122]?=some (.cells #[.int .i64 0,.int .i64 0,.int .i64 0,.int .i64 0,.int .i64 0,.slice none 0 0,.slice none 0 0,.int .i64 0] 50 (0,0))):=⟨h2_⟩
 have BK126:Aside0 (w27.heap[gb126]?=some (.cells #[.int .i64 0,.int .i64 0,.int .i64 0,.int .i64 0,.int .i64 0,.slice none 0 0,.slice none 0 0,.int .i64 0] 50 (0,0))):=⟨h3_⟩
 have GW126:Aside0 (w.heap.size≤gb126):=⟨h4_⟩
 have GE126:Aside0 (w.heap.size≤gb126):=⟨h5_⟩
 have NB121_126:Aside0 (gb121≠gb126):=⟨h6_⟩
 have NB126_121:Aside0 (gb126≠gb121):=⟨h7_⟩
 have NB122_126:Aside0 (gb122≠gb126):=⟨h8_⟩
 have NB126_122:Aside0 (gb126≠gb122):=⟨h9_⟩
 replace HB:Aside0 (Below w.heap.size w w27):=⟨h10_⟩
 clear h0_ h1_ h2_ h3_ h4_ h5_ h6_ h7_ h8_ h9_ h10_
 have hHeld:w27.cell? ⟨gb121,0,none⟩=some (.int .i64 a2_0)∧w27.cell? ⟨gb121,1,none⟩=some (.int .i64 a2_1)∧w27.cell? ⟨gb121,2,none⟩=some (.int .i64 a2_2)∧w27.cell? ⟨gb121,3,none⟩=some (.int .i64 a2_3)∧w27.cell? ⟨gb121,4,none⟩=some (.int .i64 a2_4):=hS_
 obtain ⟨Ao28,co28,eo28⟩:=Kd.R_slice HO125.out
 (first|subst eo28|(injection eo28 with f1_ f2_ f3_;have f4_:=f1_.symm;have f5_:=f3_.symm;clear f1_ f2_ f3_;subst f4_;subst f5_))
 refine norm_ (a':=?_) ?_ ?_
 rotate_left
 ·
  simp only [putAll,Act.put,List.setIfInBounds_toArray,List.set_cons_zero,List.set_cons_succ]
  rfl
 refine one_ (i:=5) (N:=none) (bl 6 63) rfl rfl TK (by decide) (fun K hK=>?_)
 have hs29:w27.cell? ⟨gb126,0,none⟩=some (.int .i64 0):=(blk_cell BK126.out 0).trans rfl
 have hfs29:=blk_frozen BK126.out 0
 have hns29_0:=NB121_126.out
 have hns29_1:=NB122_126.out
 have hms29_0:=NB126_121.out
 have hms29_1:=NB126_122.out
 have hs30:w27.cell? ⟨gb126,1,none⟩=some (.int .i64 0):=(blk_cell BK126.out 1).trans rfl
 have hfs30:=blk_frozen BK126.out 1
 have hns30_0:=NB121_126.out
 have hns30_1:=NB122_126.out
 have hms30_0:=NB126_121.out
 have hms30_1:=NB126_122.out
 have hs31:w27.cell? ⟨gb126,2,none⟩=some (.int .i64 0):=(blk_cell BK126.out 2).trans rfl
 have hfs31:=blk_frozen BK126.out 2
 have hns31_0:=NB121_126.out
 have hns31_1:=NB122_126.out
 have hms31_0:=NB126_121.out
 have hms31_1:=NB126_122.out
 have hs32:w27.cell? ⟨gb126,3,none⟩=some (.int .i64 0):=(blk_cell BK126.out 3).trans rfl
 have hfs32:=blk_frozen BK126.out 3
 have hns32_0:=NB121_126.out
 have hns32_1:=NB122_126.out
 have hms32_0:=NB126_121.out
 have hms32_1:=NB126_122.out
 have hs33:w27.cell? ⟨gb126,4,none⟩=some (.int .i64 0):=(blk_cell BK126.out 4).trans rfl
 have hfs33:=blk_frozen BK126.out 4
 have hns33_0:=NB121_126.out
 have hns33_1:=NB122_126.out
 have hms33_0:=NB126_121.out
 have hms33_1:=NB126_122.out
 have hs34:w27.cell? ⟨gb126,5,none⟩=some (.slice none 0 0):=(blk_cell BK126.out 5).trans rfl
 have hfs34:=blk_frozen BK126.out 5
 have hns34_0:=NB121_126.out
 have hns34_1:=NB122_126.out
 have hms34_0:=NB126_121.out
 have hms34_1:=NB126_122.out
 have hs35:w27.cell? ⟨gb126,6,none⟩=some (.slice none 0 0):=(blk_cell BK126.out 6).trans rfl
 have hfs35:=blk_frozen BK126.out 6
 have hns35_0:=NB121_126.out
 have hns35_1:=NB122_126.out
 have hms35_0:=NB126_121.out
 have hms35_1:=NB126_122.out
 have hs36:w27.cell? ⟨gb126,7,none⟩=some (.int .i64 0):=(blk_cell BK126.out 7).trans rfl
 have hfs36:=blk_frozen BK126.out 7
 have hns36_0:=NB121_126.out
 have hns36_1:=NB122_126.out
 have hms36_0:=NB126_121.out
 have hms36_1:=NB126_122.out
 refine skip_ (w1:=?_) (by rfl) rfl ?_ ?_
 rotate_left
 ·
  go_simp
  rfl
 refine hK.out _ _ ⟨((cell_far (p:=⟨gb126,_,none⟩) NB121_126.out _).trans (((cell_far (p:=⟨gb126,_,none⟩) NB121_126.out _).trans (((cell_far (p:=⟨gb126,_,none⟩) NB121_126.out _).trans (((cell_far (p:=⟨gb126,_,none⟩) NB121_126.out _).trans (((cell_far (p:=⟨gb126,_,none⟩) NB121_126.out _).trans (((cell_far (p:=⟨gb126,_,none⟩) NB121_126.out _).trans (((cell_far (p:=⟨gb126,_,none⟩) NB121_126.out _).trans (((cell_far (p:=⟨gb126,_,none⟩) NB121_126.out _).trans (hHeld.1)))))))))))))))),((cell_far (p:=⟨gb126,_,none⟩) NB121_126.out _).trans (((cell_far (p:=⟨gb126,_,none⟩) NB121_126.out _).trans (((cell_far (p:=⟨gb126,_,none⟩) NB121_126.out _).trans (((cell_far (p:=⟨gb126,_,none⟩) NB121_126.out _).trans (((cell_far (p:=⟨gb126,_,none⟩) NB121_126.out _).trans (((cell_far (p:=⟨gb126,_,none⟩) NB121_126.out _).trans (((cell_far (p:=⟨gb126,_,none⟩) NB121_126.out _).trans (((cell_far (p:=⟨gb126,_,none⟩) NB121_126.out _).trans (hHeld.2.1)))))))))))))))),((cell_far (p:=⟨gb126,_,none⟩) NB121_126.out _).trans (((cell_far (p:=⟨gb126,_,none⟩) NB121_126.out _).trans (((cell_far (p:=⟨gb126,_,none⟩) NB121_126.out _).trans (((cell_far (p:=⟨gb126,_,none⟩) NB121_126.out _).trans (((cell_far (p:=⟨gb126,_,none⟩) NB121_126.out _).trans (((cell_far (p:=⟨gb126,_,none⟩) NB121_126.out _).trans (((cell_far (p:=⟨gb126,_,none⟩) NB121_126.out _).trans (((cell_far (p:=⟨gb126,_,none⟩) NB121_126.out _).trans (hHeld.2.2.1)))))))))))))))),((cell_far (p:=⟨gb126,_,none⟩) NB121_126.out _).trans (((cell_far (p:=⟨gb126,_,none⟩) NB121_126.out _).trans (((cell_far (p:=⟨gb126,_,none⟩) NB121_126.out _).trans (((cell_far (p:=⟨gb126,_,none⟩) NB121_126.out _).trans (((cell_far (p:=⟨gb126,_,none⟩) NB121_126.out _).trans (((cell_far (p:=⟨gb126,_,none⟩) NB121_126.out _).trans (((cell_far (p:=⟨gb126,_,none⟩) NB121_126.out _).trans (((cell_far (p:=⟨gb126,_,none⟩) NB121_126.out _).trans (hHeld.2.2.2.1)))))))))))))))),((cell_far (p:=⟨gb126,_,none⟩) NB121_126.out _).trans (((cell_far (p:=⟨gb126,_,none⟩) NB121_126.out _).trans (((cell_far (p:=⟨gb126,_,none⟩) NB121_126.out _).trans (((cell_far (p:=⟨gb126,_,none⟩) NB121_126.out _).trans (((cell_far (p:=⟨gb126,_,none⟩) NB121_126.out _).trans (((cell_far (p:=⟨gb126,_,none⟩) NB121_126.out _).trans (((cell_far (p:=⟨gb126,_,none⟩) NB121_126.out _).trans (((cell_far (p:=⟨gb126,_,none⟩) NB121_126.out _).trans (hHeld.2.2.2.2))))))))))))))))⟩ (fun hHeld=>?_)
 clear hK K
 refine done_ TK ?_
 have hnb37:=NB121_122.out
 have hnc37:=NB122_121.out
 have hnb38:=NB121_126.out
 have hnc38:=NB126_121.out
 obtain ⟨hcz39_0,hcz39_1,hcz39_2,hcz39_3,hcz39_4⟩:=blkC5 BK121.out
 obtain ⟨hfz39_0,hfz39_1,hfz39_2,hfz39_3,hfz39_4⟩:=blkF5 BK121.out
 have hnb40:=NB126_122.out
 have hnc40:=NB122_126.out
 obtain ⟨hcz41_0,hcz41_1,hcz41_2,hcz41_3,hcz41_4,hcz41_5,hcz41_6,hcz41_7⟩:=blkC8 BK126.out
 obtain ⟨hfz41_0,hfz41_1,hfz41_2,hfz41_3,hfz41_4,hfz41_5,hfz41_6,hfz41_7⟩:=blkF8 BK126.out
 by_cases c7:t127=true
 rotate_left
 ·
  replace c7:=Bool.eq_false_iff.mpr c7
  subst c7
  rw [if_neg (show ¬ (false=true) by decide)] at H
  simp only [Option.some.injEq,Prod.mk.injEq] at H
  obtain ⟨rfl,rfl,rfl,rfl,rfl,rfl,rfl,rfl,rfl⟩:=H
  try go_wp2_with (first|((with_reducible refine gate_callee (f:=30) rfl ?_);refine goesL_ (some 20) rfl rfl Try.func30 TK rfl #[.agg #[.int .i64 a2_0,.int .i64 a2_1,.int .i64 a2_2,.int .i64 a2_3,.int .i64 a2_4],.int .i64 (t123.length:Int)] rfl TM ?_;(with_reducible refine (place_has.calls a2_0 a2_1 a2_2 a2_3 a2_4 (t123.length:Int) false _ A6.out).mono ?_);rintro e w100 ⟨rfl,hb⟩;refine ⟨_,rfl,?_⟩;replace HO125:=Am (Kd.R_below (RU (Kd.R_mono (Kd.R_far (p:=⟨gb126,7,none⟩) (Kd.R_far (p:=⟨gb126,6,none⟩) (Kd.R_far (p:=⟨gb126,5,none⟩) (Kd.R_far (p:=⟨gb126,4,none⟩) (Kd.R_far (p:=⟨gb126,3,none⟩) (Kd.R_far (p:=⟨gb126,2,none⟩) (Kd.R_far (p:=⟨gb126,1,none⟩) (Kd.R_far (p:=⟨gb126,0,none⟩) (Kd.R_types HO125.out BK126.out (by decide)) (fun _ hk=>hk.2) (.int .i64 a2_0)) (fun _ hk=>hk.2) (.int .i64 a2_1)) (fun _ hk=>hk.2) (.int .i64 a2_2)) (fun _ hk=>hk.2) (.int .i64 a2_3)) (fun _ hk=>hk.2) (.int .i64 a2_4)) (fun _ hk=>hk.2) (.slice Ao28 t123.length co28)) (fun _ hk=>hk.2) (.slice none 0 0)) (fun _ hk=>hk.2) (.int .i64 0)) (fun _ h_=>h_.1))) hb);replace BK121:=Am (blk_below (g:=gb121) (o:= .cells #[.int .i64 a2_0,.int .i64 a2_1,.int .i64 a2_2,.int .i64 a2_3,.int .i64 a2_4] 25 (0,0)) (by refine blk_far ?_ NB121_126.out _;refine blk_far ?_ NB121_126.out _;refine blk_far ?_ NB121_126.out _;refine blk_far ?_ NB121_126.out _;refine blk_far ?_ NB121_126.out _;refine blk_far ?_ NB121_126.out _;refine blk_far ?_ NB121_126.out _;refine blk_far ?_ NB121_126.out _;exact BK121.out) hb);replace BK122:=Am (blk_below (g:=gb122) (o:= .cells #[.int .i64 0,.int .i64 0,.int .i64 0,.int .i64 0,.int .i64 0,.slice none 0 0,.slice none 0 0,.int .i64 0] 50 (0,0)) (by refine blk_far ?_ NB122_126.out _;refine blk_far ?_ NB122_126.out _;refine blk_far ?_ NB122_126.out _;refine blk_far ?_ NB122_126.out _;refine blk_far ?_ NB122_126.out _;refine blk_far ?_ NB122_126.out _;refine blk_far ?_ NB122_126.out _;refine blk_far ?_ NB122_126.out _;exact BK122.out) hb);replace BK126:=Am (blk_below (g:=gb126) (o:= .cells #[.int .i64 a2_0,.int .i64 a2_1,.int .i64 a2_2,.int .i64 a2_3,.int .i64 a2_4,.slice Ao28 t123.length co28,.slice none 0 0,.int .i64 0] 50 (0,0)) (by refine blk_put (cs:= #[.int .i64 a2_0,.int .i64 a2_1,.int .i64 a2_2,.int .i64 a2_3,.int .i64 a2_4,.slice Ao28 t123.length co28,.slice none 0 0,.int .i64 0]) ?_ 7 _ rfl;refine blk_put (cs:= #[.int .i64 a2_0,.int .i64 a2_1,.int .i64 a2_2,.int .i64 a2_3,.int .i64 a2_4,.slice Ao28 t123.length co28,.slice none 0 0,.int .i64 0]) ?_ 6 _ rfl;refine blk_put (cs:= #[.int .i64 a2_0,.int .i64 a2_1,.int .i64 a2_2,.int .i64 a2_3,.int .i64 a2_4,.slice none 0 0,.slice none 0 0,.int .i64 0]) ?_ 5 _ rfl;refine blk_put (cs:= #[.int .i64 a2_0,.int .i64 a2_1,.int .i64 a2_2,.int .i64 a2_3,.int .i64 0,.slice none 0 0,.slice none 0 0,.int .i64 0]) ?_ 4 _ rfl;refine blk_put (cs:= #[.int .i64 a2_0,.int .i64 a2_1,.int .i64 a2_2,.int .i64 0,.int .i64 0,.slice none 0 0,.slice none 0 0,.int .i64 0]) ?_ 3 _ rfl;refine blk_put (cs:= #[.int .i64 a2_0,.int .i64 a2_1,.int .i64 0,.int .i64 0,.int .i64 0,.slice none 0 0,.slice none 0 0,.int .i64 0]) ?_ 2 _ rfl;refine blk_put (cs:= #[.int .i64 a2_0,.int .i64 0,.int .i64 0,.int .i64 0,.int .i64 0,.slice none 0 0,.slice none 0 0,.int .i64 0]) ?_ 1 _ rfl;refine blk_put (cs:= #[.int .i64 0,.int .i64 0,.int .i64 0,.int .i64 0,.int .i64 0,.slice none 0 0,.slice none 0 0,.int .i64 0]) ?_ 0 _ rfl;exact BK126.out) hb);replace HB:=Am (below_step TB hb);(try clear hb);(try clear hb2);(try clear hk);(try clear hi);obtain ⟨hcz101_0,hcz101_1,hcz101_2,hcz101_3,hcz101_4,hcz101_5,hcz101_6,hcz101_7⟩:=blkC8 BK122.out;obtain ⟨hfz101_0,hfz101_1,hfz101_2,hfz101_3,hfz101_4,hfz101_5,hfz101_6,hfz101_7⟩:=blkF8 BK122.out))
  refine bodyPost_ret (results_ct rfl _ _ gb122 50 #[.int .i64 0,.int .i64 0,.int .i64 0,.int .i64 0,.int .i64 0,.slice none 0 0,.slice none 0 0,.int .i64 0] (0,0) _ rfl (by refine blk_put (cs:= #[.int .i64 0,.int .i64 0,.int .i64 0,.int .i64 0,.int .i64 0,.slice none 0 0,.slice none 0 0,.int .i64 0]) ?_ 7 _ rfl;refine blk_put (cs:= #[.int .i64 0,.int .i64 0,.int .i64 0,.int .i64 0,.int .i64 0,.slice none 0 0,.slice none 0 0,.int .i64 0]) ?_ 6 _ rfl;refine blk_put (cs:= #[.int .i64 0,.int .i64 0,.int .i64 0,.int .i64 0,.int .i64 0,.slice none 0 0,.slice none 0 0,.int .i64 0]) ?_ 5 _ rfl;refine blk_put (cs:= #[.int .i64 0,.int .i64 0,.int .i64 0,.int .i64 0,.int .i64 0,.slice none 0 0,.slice none 0 0,.int .i64 0]) ?_ 4 _ rfl;refine blk_put (cs:= #[.int .i64 0,.int .i64 0,.int .i64 0,.int .i64 0,.int .i64 0,.slice none 0 0,.slice none 0 0,.int .i64 0]) ?_ 3 _ rfl;refine blk_put (cs:= #[.int .i64 0,.int .i64 0,.int .i64 0,.int .i64 0,.int .i64 0,.slice none 0 0,.slice none 0 0,.int .i64 0]) ?_ 2 _ rfl;refine blk_put (cs:= #[.int .i64 0,.int .i64 0,.int .i64 0,.int .i64 0,.int .i64 0,.slice none 0 0,.slice none 0 0,.int .i64 0]) ?_ 1 _ rfl;refine blk_put (cs:= #[.int .i64 0,.int .i64 0,.int .i64 0,.int .i64 0,.int .i64 0,.slice none 0 0,.slice none 0 0,.int .i64 0]) ?_ 0 _ rfl;exact BK122.out) Try.underlying50 rfl TK) rfl ?_
  exact ⟨_,_,TE,by first|exact Kd.R_nil _ _ _ _ _|exact Kd.N_nil _ _ _ _ _|exact Kd.V_nil _ _ _ _ _|exact Kd.Q_nil _ _ _ _ _|exact Kd.S_nil _ _ _ _ _,by first|exact Kd.R_nil _ _ _ _ _|exact Kd.N_nil _ _ _ _ _|exact Kd.V_nil _ _ _ _ _|exact Kd.Q_nil _ _ _ _ _|exact Kd.S_nil _ _ _ _ _,TB⟩
 subst c7
 rw [if_pos rfl] at H
 by_cases c8:a2_0 < a2_1
 rotate_left
 ·
  rw [if_neg c8] at H
  have c8b0:decide (a2_0 < a2_1)=false:=decide_eq_false c8
  clear c8
  simp only [Option.some.injEq,Prod.mk.injEq] at H
  obtain ⟨rfl,rfl,rfl,rfl,rfl,rfl,rfl,rfl,rfl⟩:=H
  try go_wp2_with (first|((with_reducible refine gate_callee (f:=30) rfl ?_);refine goesL_ (some 20) rfl rfl Try.func30 TK rfl #[.agg #[.int .i64 a2_0,.int .i64 a2_1,.int .i64 a2_2,.int .i64 a2_3,.int .i64 a2_4],.int .i64 (t123.length:Int)] rfl TM ?_;(with_reducible refine (place_has.calls a2_0 a2_1 a2_2 a2_3 a2_4 (t123.length:Int) true _ A6.out).mono ?_);rintro e w75 ⟨rfl,hb⟩;refine ⟨_,rfl,?_⟩;replace HO125:=Am (Kd.R_below (RU (Kd.R_mono (Kd.R_far (p:=⟨gb126,7,none⟩) (Kd.R_far (p:=⟨gb126,6,none⟩) (Kd.R_far (p:=⟨gb126,5,none⟩) (Kd.R_far (p:=⟨gb126,4,none⟩) (Kd.R_far (p:=⟨gb126,3,none⟩) (Kd.R_far (p:=⟨gb126,2,none⟩) (Kd.R_far (p:=⟨gb126,1,none⟩) (Kd.R_far (p:=⟨gb126,0,none⟩) (Kd.R_types HO125.out BK126.out (by decide)) (fun _ hk=>hk.2) (.int .i64 a2_0)) (fun _ hk=>hk.2) (.int .i64 a2_1)) (fun _ hk=>hk.2) (.int .i64 a2_2)) (fun _ hk=>hk.2) (.int .i64 a2_3)) (fun _ hk=>hk.2) (.int .i64 a2_4)) (fun _ hk=>hk.2) (.slice Ao28 t123.length co28)) (fun _ hk=>hk.2) (.slice none 0 0)) (fun _ hk=>hk.2) (.int .i64 0)) (fun _ h_=>h_.1))) hb);replace BK121:=Am (blk_below (g:=gb121) (o:= .cells #[.int .i64 a2_0,.int .i64 a2_1,.int .i64 a2_2,.int .i64 a2_3,.int .i64 a2_4] 25 (0,0)) (by refine blk_far ?_ NB121_126.out _;refine blk_far ?_ NB121_126.out _;refine blk_far ?_ NB121_126.out _;refine blk_far ?_ NB121_126.out _;refine blk_far ?_ NB121_126.out _;refine blk_far ?_ NB121_126.out _;refine blk_far ?_ NB121_126.out _;refine blk_far ?_ NB121_126.out _;exact BK121.out) hb);replace BK122:=Am (blk_below (g:=gb122) (o:= .cells #[.int .i64 0,.int .i64 0,.int .i64 0,.int .i64 0,.int .i64 0,.slice none 0 0,.slice none 0 0,.int .i64 0] 50 (0,0)) (by refine blk_far ?_ NB122_126.out _;refine blk_far ?_ NB122_126.out _;refine blk_far ?_ NB122_126.out _;refine blk_far ?_ NB122_126.out _;refine blk_far ?_ NB122_126.out _;refine blk_far ?_ NB122_126.out _;refine blk_far ?_ NB122_126.out _;refine blk_far ?_ NB122_126.out _;exact BK122.out) hb);replace BK126:=Am (blk_below (g:=gb126) (o:= .cells #[.int .i64 a2_0,.int .i64 a2_1,.int .i64 a2_2,.int .i64 a2_3,.int .i64 a2_4,.slice Ao28 t123.length co28,.slice none 0 0,.int .i64 0] 50 (0,0)) (by refine blk_put (cs:= #[.int .i64 a2_0,.int .i64 a2_1,.int .i64 a2_2,.int .i64 a2_3,.int .i64 a2_4,.slice Ao28 t123.length co28,.slice none 0 0,.int .i64 0]) ?_ 7 _ rfl;refine blk_put (cs:= #[.int .i64 a2_0,.int .i64 a2_1,.int .i64 a2_2,.int .i64 a2_3,.int .i64 a2_4,.slice Ao28 t123.length co28,.slice none 0 0,.int .i64 0]) ?_ 6 _ rfl;refine blk_put (cs:= #[.int .i64 a2_0,.int .i64 a2_1,.int .i64 a2_2,.int .i64 a2_3,.int .i64 a2_4,.slice none 0 0,.slice none 0 0,.int .i64 0]) ?_ 5 _ rfl;refine blk_put (cs:= #[.int .i64 a2_0,.int .i64 a2_1,.int .i64 a2_2,.int .i64 a2_3,.int .i64 0,.slice none 0 0,.slice none 0 0,.int .i64 0]) ?_ 4 _ rfl;refine blk_put (cs:= #[.int .i64 a2_0,.int .i64 a2_1,.int .i64 a2_2,.int .i64 0,.int .i64 0,.slice none 0 0,.slice none 0 0,.int .i64 0]) ?_ 3 _ rfl;refine blk_put (cs:= #[.int .i64 a2_0,.int .i64 a2_1,.int .i64 0,.int .i64 0,.int .i64 0,.slice none 0 0,.slice none 0 0,.int .i64 0]) ?_ 2 _ rfl;refine blk_put (cs:= #[.int .i64 a2_0,.int .i64 0,.int .i64 0,.int .i64 0,.int .i64 0,.slice none 0 0,.slice none 0 0,.int .i64 0]) ?_ 1 _ rfl;refine blk_put (cs:= #[.int .i64 0,.int .i64 0,.int .i64 0,.int .i64 0,.int .i64 0,.slice none 0 0,.slice none 0 0,.int .i64 0]) ?_ 0 _ rfl;exact BK126.out) hb);replace HB:=Am (below_step TB hb);(try clear hb);(try clear hb2);(try clear hk);(try clear hi);obtain ⟨hcz76_0,hcz76_1,hcz76_2,hcz76_3,hcz76_4⟩:=blkC5 BK121.out;obtain ⟨hfz76_0,hfz76_1,hfz76_2,hfz76_3,hfz76_4⟩:=blkF5 BK121.out;obtain ⟨hcz77_0,hcz77_1,hcz77_2,hcz77_3,hcz77_4,hcz77_5,hcz77_6,hcz77_7⟩:=blkC8 BK126.out;obtain ⟨hfz77_0,hfz77_1,hfz77_2,hfz77_3,hfz77_4,hfz77_5,hfz77_6,hfz77_7⟩:=blkF8 BK126.out;obtain ⟨hcz78_0,hcz78_1,hcz78_2,hcz78_3,hcz78_4,hcz78_5,hcz78_6,hcz78_7⟩:=blkC8 BK122.out;obtain ⟨hfz78_0,hfz78_1,hfz78_2,hfz78_3,hfz78_4,hfz78_5,hfz78_6,hfz78_7⟩:=blkF8 BK122.out))
  refine bodyPost_ret (results_ct rfl _ _ gb122 50 #[.int .i64 a2_0,.int .i64 a2_1,.int .i64 a2_2,.int .i64 a2_3,.int .i64 a2_4,.slice Ao28 t123.length co28,.slice none 0 0,.int .i64 0] (0,0) _ rfl (by refine blk_put (cs:= #[.int .i64 a2_0,.int .i64 a2_1,.int .i64 a2_2,.int .i64 a2_3,.int .i64 a2_4,.slice Ao28 t123.length co28,.slice none 0 0,.int .i64 0]) ?_ 7 _ rfl;refine blk_put (cs:= #[.int .i64 a2_0,.int .i64 a2_1,.int .i64 a2_2,.int .i64 a2_3,.int .i64 a2_4,.slice Ao28 t123.length co28,.slice none 0 0,.int .i64 0]) ?_ 6 _ rfl;refine blk_put (cs:= #[.int .i64 a2_0,.int .i64 a2_1,.int .i64 a2_2,.int .i64 a2_3,.int .i64 a2_4,.slice none 0 0,.slice none 0 0,.int .i64 0]) ?_ 5 _ rfl;refine blk_put (cs:= #[.int .i64 a2_0,.int .i64 a2_1,.int .i64 a2_2,.int .i64 a2_3,.int .i64 0,.slice none 0 0,.slice none 0 0,.int .i64 0]) ?_ 4 _ rfl;refine blk_put (cs:= #[.int .i64 a2_0,.int .i64 a2_1,.int .i64 a2_2,.int .i64 0,.int .i64 0,.slice none 0 0,.slice none 0 0,.int .i64 0]) ?_ 3 _ rfl;refine blk_put (cs:= #[.int .i64 a2_0,.int .i64 a2_1,.int .i64 0,.int .i64 0,.int .i64 0,.slice none 0 0,.slice none 0 0,.int .i64 0]) ?_ 2 _ rfl;refine blk_put (cs:= #[.int .i64 a2_0,.int .i64 0,.int .i64 0,.int .i64 0,.int .i64 0,.slice none 0 0,.slice none 0 0,.int .i64 0]) ?_ 1 _ rfl;refine blk_put (cs:= #[.int .i64 0,.int .i64 0,.int .i64 0,.int .i64 0,.int .i64 0,.slice none 0 0,.slice none 0 0,.int .i64 0]) ?_ 0 _ rfl;exact BK122.out) Try.underlying50 rfl TK) rfl ?_
  exact ⟨_,_,TE,RU (Kd.R_mono (Kd.R_far (p:=⟨gb122,7,none⟩) (Kd.R_far (p:=⟨gb122,6,none⟩) (Kd.R_far (p:=⟨gb122,5,none⟩) (Kd.R_far (p:=⟨gb122,4,none⟩) (Kd.R_far (p:=⟨gb122,3,none⟩) (Kd.R_far (p:=⟨gb122,2,none⟩) (Kd.R_far (p:=⟨gb122,1,none⟩) (Kd.R_far (p:=⟨gb122,0,none⟩) (Kd.R_types HO125.out BK122.out (by decide)) (fun _ hk=>hk.2) (.int .i64 a2_0)) (fun _ hk=>hk.2) (.int .i64 a2_1)) (fun _ hk=>hk.2) (.int .i64 a2_2)) (fun _ hk=>hk.2) (.int .i64 a2_3)) (fun _ hk=>hk.2) (.int .i64 a2_4)) (fun _ hk=>hk.2) (.slice Ao28 t123.length co28)) (fun _ hk=>hk.2) (.slice none 0 0)) (fun _ hk=>hk.2) (.int .i64 0)) (fun _ hk=>trivial)),by first|exact Kd.R_nil _ _ _ _ _|exact Kd.N_nil _ _ _ _ _|exact Kd.V_nil _ _ _ _ _|exact Kd.Q_nil _ _ _ _ _|exact Kd.S_nil _ _ _ _ _,TB⟩
 rw [if_pos c8] at H
 have c8b0:decide (a2_0 < a2_1)=true:=decide_eq_true c8
 clear c8
 obtain ⟨ji9,hji9⟩: ∃ j_:Int,(wrap64 (a2_1 - 1))=j_:=⟨_,rfl⟩
 replace H:(if 0≤(ji9) then (if (ji9) < (t123.length:Int) then (if 0≤a2_0 then (if a2_0 < (t123.length:Int) then (if 0≤((rd_T40 t123 a2_0).f2) then (if ((rd_T40 t123 a2_0).f2)≤((rd_T40 t123 (ji9)).f3) then (if ((rd_T40 t123 (ji9)).f3)≤(l0.length:Int) then (if ((rd_T40 t123 (ji9)).f3)≤(l1.length:Int) then ((bidi_Line.f ((l0.take (((rd_T40 t123 (ji9)).f3):Int).toNat).drop (((rd_T40 t123 a2_0).f2):Int).toNat) ((l1.take (((rd_T40 t123 (ji9)).f3):Int).toNat).drop (((rd_T40 t123 a2_0).f2):Int).toNat) a3).bind fun t135=>(some (a2_0,a2_1,a2_2,a2_3,a2_4,t123,t135,(rd_T40 t123 a2_0).f2,true))) else (none)) else (none)) else (none)) else (none)) else (none)) else (none)) else (none)) else (none))=some (r1,r2,r3,r4,r5,r6,r7,r8,r9):=by first|(rw [hji9] at H;exact H)|(simp only [hji9] at H ⊢;exact H)
 (try rw [hji9] at A5)
 (try rw [hji9] at A6)
 have hji9w:(IntKind.i64.wrap (a2_1 - 1))=ji9:=(i64_w _).trans hji9
 obtain ⟨c10,H⟩:=ifS H
 have c10b0:decide (0≤(ji9))=true:=decide_eq_true c10
 clear c10
 obtain ⟨c11,H⟩:=ifS H
 have c11b0:decide ((ji9) < (t123.length:Int))=true:=decide_eq_true c11
 clear c11
 obtain ⟨c12,H⟩:=ifS H
 have c12b0:decide (0≤a2_0)=true:=decide_eq_true c12
 clear c12
 obtain ⟨c13,H⟩:=ifS H
 have c13b0:decide (a2_0 < (t123.length:Int))=true:=decide_eq_true c13
 clear c13
 obtain ⟨c14,H⟩:=ifS H
 have c14b0:=eq_true c14
 have c14b1:decide (0≤((rd_T40 t123 a2_0).f2))=true:=decide_eq_true c14
 clear c14
 obtain ⟨c15,H⟩:=ifS H
 have c15b0:=eq_true c15
 have c15b1:decide (((rd_T40 t123 a2_0).f2)≤((rd_T40 t123 (ji9)).f3))=true:=decide_eq_true c15
 clear c15
 obtain ⟨c16,H⟩:=ifS H
 have c16b0:=eq_true c16
 have c16b1:decide (((rd_T40 t123 (ji9)).f3)≤(l0.length:Int))=true:=decide_eq_true c16
 clear c16
 obtain ⟨y130,hy130⟩: ∃ y_:List (S36),y_=((l0.take (((rd_T40 t123 (ji9)).f3):Int).toNat).drop (((rd_T40 t123 a2_0).f2):Int).toNat):=⟨_,rfl⟩
 replace H:(if ((rd_T40 t123 (ji9)).f3)≤(l1.length:Int) then ((bidi_Line.f y130 ((l1.take (((rd_T40 t123 (ji9)).f3):Int).toNat).drop (((rd_T40 t123 a2_0).f2):Int).toNat) a3).bind fun t135=>(some (a2_0,a2_1,a2_2,a2_3,a2_4,t123,t135,(rd_T40 t123 a2_0).f2,true))) else (none))=some (r1,r2,r3,r4,r5,r6,r7,r8,r9):=by first|(rw [hy130];with_reducible exact H)|(have H2_:=(Option.bind_some _ _).symm.trans H;rw [hy130];with_reducible exact H2_)|(have H2_:=(Option.bind_some _ _).symm.trans H;with_reducible exact H2_)|with_reducible exact H|(rw [hy130];exact H)|exact H
 have Ny130:=Am hy130
 clear hy130
 have c17b0:=eq_true (tD:0≤((rd_T40 t123 a2_0).f2))
 have c18b0:=eq_true (tD:((rd_T40 t123 a2_0).f2)≤((rd_T40 t123 (ji9)).f3))
 obtain ⟨c19,H⟩:=ifS H
 have c19b0:=eq_true c19
 have c19b1:decide (((rd_T40 t123 (ji9)).f3)≤(l1.length:Int))=true:=decide_eq_true c19
 clear c19
 obtain ⟨t135,A200,H⟩:=Option.bind_eq_some_iff.mp H
 try dsimp only at H
 have A20:=Am A200
 clear A200
 simp only [Option.some.injEq,Prod.mk.injEq] at H
 obtain ⟨rfl,rfl,rfl,rfl,rfl,rfl,rfl,rfl,rfl⟩:=H
 try go_wp2_with (first|((with_reducible refine gate_callee (f:=30) rfl ?_);refine goesL_ (some 20) rfl rfl Try.func30 TK rfl #[.agg #[.int .i64 a2_0,.int .i64 a2_1,.int .i64 a2_2,.int .i64 a2_3,.int .i64 a2_4],.int .i64 (t123.length:Int)] rfl TM ?_;(with_reducible refine (place_has.calls a2_0 a2_1 a2_2 a2_3 a2_4 (t123.length:Int) true _ A6.out).mono ?_);rintro e w42 ⟨rfl,hb⟩;refine ⟨_,rfl,?_⟩;replace HO125:=Am (Kd.R_below (RU (Kd.R_mono (Kd.R_far (p:=⟨gb126,7,none⟩) (Kd.R_far (p:=⟨gb126,6,none⟩) (Kd.R_far (p:=⟨gb126,5,none⟩) (Kd.R_far (p:=⟨gb126,4,none⟩) (Kd.R_far (p:=⟨gb126,3,none⟩) (Kd.R_far (p:=⟨gb126,2,none⟩) (Kd.R_far (p:=⟨gb126,1,none⟩) (Kd.R_far (p:=⟨gb126,0,none⟩) (Kd.R_types HO125.out BK126.out (by decide)) (fun _ hk=>hk.2) (.int .i64 a2_0)) (fun _ hk=>hk.2) (.int .i64 a2_1)) (fun _ hk=>hk.2) (.int .i64 a2_2)) (fun _ hk=>hk.2) (.int .i64 a2_3)) (fun _ hk=>hk.2) (.int .i64 a2_4)) (fun _ hk=>hk.2) (.slice Ao28 t123.length co28)) (fun _ hk=>hk.2) (.slice none 0 0)) (fun _ hk=>hk.2) (.int .i64 0)) (fun _ h_=>h_.1))) hb);replace BK121:=Am (blk_below (g:=gb121) (o:= .cells #[.int .i64 a2_0,.int .i64 a2_1,.int .i64 a2_2,.int .i64 a2_3,.int .i64 a2_4] 25 (0,0)) (by refine blk_far ?_ NB121_126.out _;refine blk_far ?_ NB121_126.out _;refine blk_far ?_ NB121_126.out _;refine blk_far ?_ NB121_126.out _;refine blk_far ?_ NB121_126.out _;refine blk_far ?_ NB121_126.out _;refine blk_far ?_ NB121_126.out _;refine blk_far ?_ NB121_126.out _;exact BK121.out) hb);replace BK122:=Am (blk_below (g:=gb122) (o:= .cells #[.int .i64 0,.int .i64 0,.int .i64 0,.int .i64 0,.int .i64 0,.slice none 0 0,.slice none 0 0,.int .i64 0] 50 (0,0)) (by refine blk_far ?_ NB122_126.out _;refine blk_far ?_ NB122_126.out _;refine blk_far ?_ NB122_126.out _;refine blk_far ?_ NB122_126.out _;refine blk_far ?_ NB122_126.out _;refine blk_far ?_ NB122_126.out _;refine blk_far ?_ NB122_126.out _;refine blk_far ?_ NB122_126.out _;exact BK122.out) hb);replace BK126:=Am (blk_below (g:=gb126) (o:= .cells #[.int .i64 a2_0,.int .i64 a2_1,.int .i64 a2_2,.int .i64 a2_3,.int .i64 a2_4,.slice Ao28 t123.length co28,.slice none 0 0,.int .i64 0] 50 (0,0)) (by refine blk_put (cs:= #[.int .i64 a2_0,.int .i64 a2_1,.int .i64 a2_2,.int .i64 a2_3,.int .i64 a2_4,.slice Ao28 t123.length co28,.slice none 0 0,.int .i64 0]) ?_ 7 _ rfl;refine blk_put (cs:= #[.int .i64 a2_0,.int .i64 a2_1,.int .i64 a2_2,.int .i64 a2_3,.int .i64 a2_4,.slice Ao28 t123.length co28,.slice none 0 0,.int .i64 0]) ?_ 6 _ rfl;refine blk_put (cs:= #[.int .i64 a2_0,.int .i64 a2_1,.int .i64 a2_2,.int .i64 a2_3,.int .i64 a2_4,.slice none 0 0,.slice none 0 0,.int .i64 0]) ?_ 5 _ rfl;refine blk_put (cs:= #[.int .i64 a2_0,.int .i64 a2_1,.int .i64 a2_2,.int .i64 a2_3,.int .i64 0,.slice none 0 0,.slice none 0 0,.int .i64 0]) ?_ 4 _ rfl;refine blk_put (cs:= #[.int .i64 a2_0,.int .i64 a2_1,.int .i64 a2_2,.int .i64 0,.int .i64 0,.slice none 0 0,.slice none 0 0,.int .i64 0]) ?_ 3 _ rfl;refine blk_put (cs:= #[.int .i64 a2_0,.int .i64 a2_1,.int .i64 0,.int .i64 0,.int .i64 0,.slice none 0 0,.slice none 0 0,.int .i64 0]) ?_ 2 _ rfl;refine blk_put (cs:= #[.int .i64 a2_0,.int .i64 0,.int .i64 0,.int .i64 0,.int .i64 0,.slice none 0 0,.slice none 0 0,.int .i64 0]) ?_ 1 _ rfl;refine blk_put (cs:= #[.int .i64 0,.int .i64 0,.int .i64 0,.int .i64 0,.int .i64 0,.slice none 0 0,.slice none 0 0,.int .i64 0]) ?_ 0 _ rfl;exact BK126.out) hb);replace HB:=Am (below_step TB hb);(try clear hb);(try clear hb2);(try clear hk);(try clear hi);obtain ⟨hcz43_0,hcz43_1,hcz43_2,hcz43_3,hcz43_4⟩:=blkC5 BK121.out;obtain ⟨hfz43_0,hfz43_1,hfz43_2,hfz43_3,hfz43_4⟩:=blkF5 BK121.out;obtain ⟨hcz44_0,hcz44_1,hcz44_2,hcz44_3,hcz44_4,hcz44_5,hcz44_6,hcz44_7⟩:=blkC8 BK126.out;obtain ⟨hfz44_0,hfz44_1,hfz44_2,hfz44_3,hfz44_4,hfz44_5,hfz44_6,hfz44_7⟩:=blkF8 BK126.out;have p128:0≤((ji9):Int):=tD;have q128:(ji9) < (t123.length:Int):=tD;obtain ⟨ad128,e128,hx128_0,hx128_1,hx128_2,hx128_3,hx128_4,hx128_5⟩:=at_T40 (Kd.R_reads' HO125.out).2.2 (ji9) p128 q128;cases e128;replace p128:=eq_true p128;replace q128:=eq_true q128;have p129:0≤(a2_0:Int):=tD;have q129:a2_0 < (t123.length:Int):=tD;obtain ⟨ad129,e129,hx129_0,hx129_1,hx129_2,hx129_3,hx129_4,hx129_5⟩:=at_T40 (Kd.R_reads' HO125.out).2.2 a2_0 p129 q129;obtain rfl:ad128=ad129:=(by injection e129);replace p129:=eq_true p129;replace q129:=eq_true q129))
 have n0_:Aside0 (Kd.R k40 40 (w42.setCell ⟨gb126,7,none⟩ (.int .i64 ((rd_T40 t123 a2_0).f2))) w.heap.size (fun _=>True) (.slice (some ad128) t123.length co28) t123):=⟨RU (Kd.R_mono (Kd.R_far (p:=⟨gb126,7,none⟩) (Kd.R_types HO125.out BK126.out (by decide)) (fun _ hk=>hk.2) (.int .i64 ((rd_T40 t123 a2_0).f2))) (fun _ hk=>trivial))⟩
 have n1_:Aside0 ((w42.setCell ⟨gb126,7,none⟩ (.int .i64 ((rd_T40 t123 a2_0).f2))).heap[gb121]?=some (.cells #[.int .i64 a2_0,.int .i64 a2_1,.int .i64 a2_2,.int .i64 a2_3,.int .i64 a2_4] 25 (0,0))):=⟨by refine blk_far ?_ NB121_126.out _;exact BK121.out⟩
 have n2_:Aside0 ((w42.setCell ⟨gb126,7,none⟩ (.int .i64 ((rd_T40 t123 a2_0).f2))).heap[gb122]?=some (.cells #[.int .i64 0,.int .i64 0,.int .i64 0,.int .i64 0,.int .i64 0,.slice none 0 0,.slice none 0 0,.int .i64 0] 50 (0,0))):=⟨by refine blk_far ?_ NB122_126.out _;exact BK122.out⟩
 have n3_:Aside0 ((w42.setCell ⟨gb126,7,none⟩ (.int .i64 ((rd_T40 t123 a2_0).f2))).heap[gb126]?=some (.cells #[.int .i64 a2_0,.int .i64 a2_1,.int .i64 a2_2,.int .i64 a2_3,.int .i64 a2_4,.slice (some ad128) t123.length co28,.slice none 0 0,.int .i64 ((rd_T40 t123 a2_0).f2)] 50 (0,0))):=⟨by refine blk_put (cs:= #[.int .i64 a2_0,.int .i64 a2_1,.int .i64 a2_2,.int .i64 a2_3,.int .i64 a2_4,.slice (some ad128) t123.length co28,.slice none 0 0,.int .i64 0]) ?_ 7 _ rfl;exact BK126.out⟩
 have n4_:Aside0 (Below w.heap.size w (w42.setCell ⟨gb126,7,none⟩ (.int .i64 ((rd_T40 t123 a2_0).f2)))):=⟨TB⟩
 (try clear HO125)
 (try clear BK121)
 (try clear BK122)
 (try clear BK126)
 (try clear HB)
 generalize (w42.setCell ⟨gb126,7,none⟩ (.int .i64 ((rd_T40 t123 a2_0).f2)))=w45 at n0_ n1_ n2_ n3_ n4_ ⊢
 have HO125:=n0_
 have BK121:=n1_
 have BK122:=n2_
 have BK126:=n3_
 have HB:=n4_
 clear n0_ n1_ n2_ n3_ n4_
 replace HO125:=Am (Kd.R_drew HO125.out)
 replace BK121:=Am (blk_drew BK121.out)
 replace BK122:=Am (blk_drew BK122.out)
 replace BK126:=Am (blk_drew BK126.out)
 replace HB:=Am (below_drew1 HB.out)
 have q47:(((rd_T40 t123 (ji9)).f3):Int)≤((l0.length:Int):Int):=tD
 obtain ⟨i047,hi047,_,hsz47,_⟩:=info_parts info36
 have hroom47:l0.length≤c0:=HC0.out
 have hC47:Kd.C k36 _ A0 l0.length l0:=HR0.out
 have ql47:(((rd_T40 t123 a2_0).f2):Int)≤(((rd_T40 t123 (ji9)).f3):Int):=tD
 have q047:(0:Int)≤(((rd_T40 t123 a2_0).f2):Int):=tD
 have hcut47:=cut_mid (P:=Try.prog) 22 36 .i64 .i64 Try.underlying22 hi047 3 hsz47 A0 l0.length c0 ((rd_T40 t123 a2_0).f2) ((rd_T40 t123 (ji9)).f3) q047 ql47 q47 hroom47
 have hr47:=Kd.C_mid (lo:=(((rd_T40 t123 a2_0).f2):Int).toNat) (hi:=(((rd_T40 t123 (ji9)).f3):Int).toNat) (c:=c0) hC47 (by omega) (by omega) hroom47
 obtain ⟨A47,hA47⟩: ∃ A1,A1=(if c0=(((rd_T40 t123 a2_0).f2):Int).toNat then A0 else (A0:Option Addr).map (·.add ((((rd_T40 t123 a2_0).f2):Int).toNat * 3))):=⟨_,rfl⟩
 obtain ⟨c47,hc47⟩: ∃ c1,c1=c0 - (((rd_T40 t123 a2_0).f2):Int).toNat:=⟨_,rfl⟩
 have hy47:y130.length=(((rd_T40 t123 (ji9)).f3):Int).toNat - (((rd_T40 t123 a2_0).f2):Int).toNat:=(by rw [Ny130.out,List.length_drop,List.length_take] <;> omega)
 rw [show ((l0).take (((rd_T40 t123 (ji9)).f3):Int).toNat).drop (((rd_T40 t123 a2_0).f2):Int).toNat=y130 from Ny130.out.symm] at hr47
 replace hr47:Kd.C k36 _ A47 y130.length y130:=(by rw [hA47];exact hr47)
 rw [← hy47,← hA47,← hc47] at hcut47
 have HR133:=Am hr47
 have HC133:=Am (show y130.length≤c47 from by rw [hy47,hc47];exact Nat.sub_le_sub_right (Nat.le_trans (by omega) hroom47) _)
 clear hr47 hC47 hroom47 hi047 hsz47 hc47
 have KY47:=Am hy47
 have KA47:=Am hA47
 clear hy47 hA47
 replace q47:=eq_true q47
 obtain ⟨i048,hi048,_,hsz48,_⟩:=info_parts info3
 obtain ⟨A48,hcut48,hA48,hC48⟩:=print_mid_of (P:=Try.prog) (Value.int .i64) 0 23 3 .i64 .i64 Try.underlying23 hi048 hsz48 A1 c1 l1 ((rd_T40 t123 a2_0).f2) ((rd_T40 t123 (ji9)).f3) (tD) (by first|omega|exact tD) (tD) HC1.out
 have HR134:=Am (Kd.C_of_reads (h1:=fun _=>rfl) (hA48 _ (Kd.reads_of_C HR1.out)))
 have HC134:=Am hC48
 clear hA48 hC48 hi048 hsz48
 refine start_ (n:=14) (S:=fun w'=>w'.cell? ⟨gb126,0,none⟩=some (.int .i64 a2_0)∧w'.cell? ⟨gb126,1,none⟩=some (.int .i64 a2_1)∧w'.cell? ⟨gb126,2,none⟩=some (.int .i64 a2_2)∧w'.cell? ⟨gb126,3,none⟩=some (.int .i64 a2_3)∧w'.cell? ⟨gb126,4,none⟩=some (.int .i64 a2_4)∧w'.cell? ⟨gb126,5,none⟩=some (.slice (some ad128) t123.length co28)∧w'.cell? ⟨gb126,6,none⟩=some (.slice none 0 0)∧w'.cell? ⟨gb126,7,none⟩=some (.int .i64 ((rd_T40 t123 a2_0).f2))) (ds:=[13]) (bl 14 0) TK rfl rfl ⟨(blk_cell BK126.out 0).trans rfl,(blk_cell BK126.out 1).trans rfl,(blk_cell BK126.out 2).trans rfl,(blk_cell BK126.out 3).trans rfl,(blk_cell BK126.out 4).trans rfl,(blk_cell BK126.out 5).trans rfl,(blk_cell BK126.out 6).trans rfl,(blk_cell BK126.out 7).trans rfl⟩ (fun hHeld=>?_);refine with_tabW place_begin.tab7 place_begin.bits7 (fun HT_ HW_=>?_)
 generalize w45.drew=w46 at HO125 BK121 BK122 BK126 HB HR133 HR134 hHeld ⊢
 refine pureS (i:=0) (N:=some 44) (bl 14 1) rfl rfl (any_of HT_.out TK) ?_
 refine pureS (i:=1) (N:=some 45) (bl 14 3) rfl rfl (any_of HT_.out TK) ?_
 refine pureS (i:=3) (N:=some 47) (bl 14 11) rfl rfl (any_of HT_.out TK) ?_
 refine pureS (i:=5) (N:=some 49) (bl 14 43) rfl rfl (any_of HT_.out TK) ?_
 refine pureS (i:=6) (N:=some 50) (bl 14 107) rfl rfl (any_of HT_.out TK) ?_
 refine pureS (i:=8) (N:=some 52) (bl 14 363) rfl rfl (any_of HT_.out TK) ?_
 refine pureS (i:=10) (N:=some 54) (bl 14 1387) rfl rfl (any_of HT_.out TK) ?_
 refine take_ (i:=2) (N:=some 46) (v:=?_) (a':=?_) (bl 14 1391) rfl rfl (take_ofW HT_.out HW_.out TK) (fun _ _ _ h=>h) (Or.inl ⟨by rfl,?_⟩) hHeld ?_ ?_
 rotate_left
 ·
  rintro w' ⟨s0,s1,s2,s3,s4,s5,s6,s7⟩
  go_simp
  with_reducible rfl
 rotate_left
 ·
  simp only [PT]
  rfl
 refine pureS (i:=4) (N:=some 48) (bl 14 1407) rfl rfl (any_of HT_.out TK) ?_
 refine take_ (i:=7) (N:=some 51) (v:=?_) (a':=?_) (bl 14 1535) rfl rfl (take_ofW HT_.out HW_.out TK) (fun _ _ _ h=>h) (Or.inl ⟨by rfl,?_⟩) hHeld ?_ ?_
 rotate_left
 ·
  rintro w' ⟨s0,s1,s2,s3,s4,s5,s6,s7⟩
  go_simp
  with_reducible rfl
 rotate_left
 ·
  simp only [PT]
  rfl
 refine pureS (i:=9) (N:=some 53) (bl 14 2047) rfl rfl (any_of HT_.out TK) ?_
 refine one_ (i:=11) (N:=some 55) (bl 14 4095) rfl rfl (one_of HT_.out TK) (by decide) (fun K hK=>?_)
 refine goes_ Try.func31 TK rfl #[.slice A47 y130.length c47,.slice A48 ((l1.take (((rd_T40 t123 (ji9)).f3):Int).toNat).drop (((rd_T40 t123 a2_0).f2):Int).toNat).length (c1 - ((rd_T40 t123 a2_0).f2).toNat),.int .i64 a3] (by rfl) rfl rfl (by (try simp only [List.map_toArray,List.map_cons,List.map_nil]);first|done|(rw [show ((l1.take (((rd_T40 t123 (ji9)).f3):Int).toNat).drop (((rd_T40 t123 a2_0).f2):Int).toNat).length=(((rd_T40 t123 (ji9)).f3).toNat - ((rd_T40 t123 a2_0).f2).toNat) from (by rw [List.length_drop,List.length_take];have h_:(((rd_T40 t123 (ji9)).f3):Int)≤(l1.length:Int):=tD;omega)] <;> rfl)|(simp only [hji9];rfl)|rfl|(simp only [List.length_drop,List.length_take];rfl)) ?_
 with_reducible refine (bidi_Line.calls _ _ y130 _ _ ((l1.take (((rd_T40 t123 (ji9)).f3):Int).toNat).drop (((rd_T40 t123 a2_0).f2):Int).toNat) a3 t135 _ ?side1 ?side2 ?side3 ?side4 A20.out).mono ?_
 (case side1=>exact CU (Kd.C_below HR133.out HB.out))
 (case side2=>exact HC133.out)
 (case side3=>exact CU (Kd.C_below HR134.out HB.out))
 (case side4=>exact HC134.out)
 rintro e w49 ⟨v136,rfl,ho0,hb⟩
 refine ⟨_,rfl,?_⟩
 replace HO125:=Am (Kd.R_below (RU HO125.out) hb)
 have HO137:=Am (Kd.R_lower ho0 (below_size TB))
 replace BK121:=Am (blk_below (blkU BK121.out) hb)
 replace BK122:=Am (blk_below (blkU BK122.out) hb)
 replace BK126:=Am (blk_below (blkU BK126.out) hb)
 replace HB:=Am (below_step TB hb)
 (try clear hb)
 (try clear hb2)
 (try clear hk)
 (try clear hi)
 (try clear ho0)
 obtain ⟨Ao50,co50,eo50⟩:=Kd.R_slice HO137.out
 (first|subst eo50|(injection eo50 with f1_ f2_ f3_;have f4_:=f1_.symm;have f5_:=f3_.symm;clear f1_ f2_ f3_;subst f4_;subst f5_))
 refine hK.out _ _ ⟨(blk_cell BK126.out 0).trans rfl,(blk_cell BK126.out 1).trans rfl,(blk_cell BK126.out 2).trans rfl,(blk_cell BK126.out 3).trans rfl,(blk_cell BK126.out 4).trans rfl,(blk_cell BK126.out 5).trans rfl,(blk_cell BK126.out 6).trans rfl,(blk_cell BK126.out 7).trans rfl⟩ (fun hHeld=>?_)
 clear hK K
 refine norm_ (a':=?_) ?_ ?_
 rotate_left
 ·
  show Act.put _ (some 55) _=_
  simp only [PT]
  rfl
 refine pureS (i:=12) (N:=some 56) (bl 14 8191) rfl rfl (any_of HT_.out TK) ?_
 refine last_ (i:=13) (N:=none) (bl 14 16383) rfl rfl (one_of HT_.out TK) (by decide) (fun K hK=>?_)
 have hs51:w49.cell? ⟨gb126,6,none⟩=some (.slice none 0 0):=(blk_cell BK126.out 6).trans rfl
 have hfs51:=blk_frozen BK126.out 6
 have hns51_0:=NB121_126.out
 have hns51_1:=NB122_126.out
 have hms51_0:=NB126_121.out
 have hms51_1:=NB126_122.out
 refine skip_ (w1:=?_) (by rfl) rfl ?_ ?_
 rotate_left
 ·
  go_simp
  rfl
 refine hK.out _ _ ?_
 clear hK K
 refine done_ (done_of HT_.out TK) ?_
 obtain ⟨hcz52_0,hcz52_1,hcz52_2,hcz52_3,hcz52_4,hcz52_5,hcz52_6,hcz52_7⟩:=blkC8 BK126.out
 obtain ⟨hfz52_0,hfz52_1,hfz52_2,hfz52_3,hfz52_4,hfz52_5,hfz52_6,hfz52_7⟩:=blkF8 BK126.out
 obtain ⟨hcz53_0,hcz53_1,hcz53_2,hcz53_3,hcz53_4,hcz53_5,hcz53_6,hcz53_7⟩:=blkC8 BK122.out
 obtain ⟨hfz53_0,hfz53_1,hfz53_2,hfz53_3,hfz53_4,hfz53_5,hfz53_6,hfz53_7⟩:=blkF8 BK122.out
 try go_wp2
 refine bodyPost_ret (results_ct rfl _ _ gb122 50 #[.int .i64 a2_0,.int .i64 a2_1,.int .i64 a2_2,.int .i64 a2_3,.int .i64 a2_4,.slice (some ad128) t123.length co28,.slice Ao50 t135.length co50,.int .i64 ((rd_T40 t123 a2_0).f2)] (0,0) _ rfl (by refine blk_put (cs:= #[.int .i64 a2_0,.int .i64 a2_1,.int .i64 a2_2,.int .i64 a2_3,.int .i64 a2_4,.slice (some ad128) t123.length co28,.slice Ao50 t135.length co50,.int .i64 0]) ?_ 7 _ rfl;refine blk_put (cs:= #[.int .i64 a2_0,.int .i64 a2_1,.int .i64 a2_2,.int .i64 a2_3,.int .i64 a2_4,.slice (some ad128) t123.length co28,.slice none 0 0,.int .i64 0]) ?_ 6 _ rfl;refine blk_put (cs:= #[.int .i64 a2_0,.int .i64 a2_1,.int .i64 a2_2,.int .i64 a2_3,.int .i64 a2_4,.slice none 0 0,.slice none 0 0,.int .i64 0]) ?_ 5 _ rfl;refine blk_put (cs:= #[.int .i64 a2_0,.int .i64 a2_1,.int .i64 a2_2,.int .i64 a2_3,.int .i64 0,.slice none 0 0,.slice none 0 0,.int .i64 0]) ?_ 4 _ rfl;refine blk_put (cs:= #[.int .i64 a2_0,.int .i64 a2_1,.int .i64 a2_2,.int .i64 0,.int .i64 0,.slice none 0 0,.slice none 0 0,.int .i64 0]) ?_ 3 _ rfl;refine blk_put (cs:= #[.int .i64 a2_0,.int .i64 a2_1,.int .i64 0,.int .i64 0,.int .i64 0,.slice none 0 0,.slice none 0 0,.int .i64 0]) ?_ 2 _ rfl;refine blk_put (cs:= #[.int .i64 a2_0,.int .i64 0,.int .i64 0,.int .i64 0,.int .i64 0,.slice none 0 0,.slice none 0 0,.int .i64 0]) ?_ 1 _ rfl;refine blk_put (cs:= #[.int .i64 0,.int .i64 0,.int .i64 0,.int .i64 0,.int .i64 0,.slice none 0 0,.slice none 0 0,.int .i64 0]) ?_ 0 _ rfl;refine blk_far ?_ NB122_126.out _;exact BK122.out) Try.underlying50 rfl TK) rfl ?_
 exact ⟨_,_,by first|rfl|(simp [errW_none,errW_some] <;> rfl)|(simp only [← hji9];first|rfl|(simp [errW_none,errW_some] <;> rfl))|(simp [*,errW_none,errW_some] <;> rfl),RU (Kd.R_mono (Kd.R_far (p:=⟨gb122,7,none⟩) (Kd.R_far (p:=⟨gb122,6,none⟩) (Kd.R_far (p:=⟨gb122,5,none⟩) (Kd.R_far (p:=⟨gb122,4,none⟩) (Kd.R_far (p:=⟨gb122,3,none⟩) (Kd.R_far (p:=⟨gb122,2,none⟩) (Kd.R_far (p:=⟨gb122,1,none⟩) (Kd.R_far (p:=⟨gb122,0,none⟩) (Kd.R_far (p:=⟨gb126,6,none⟩) (Kd.R_types (Kd.R_types HO125.out BK126.out (by decide)) BK122.out (by decide)) (fun _ hk=>hk.1.2) (.slice Ao50 t135.length co50)) (fun _ hk=>hk.2) (.int .i64 a2_0)) (fun _ hk=>hk.2) (.int .i64 a2_1)) (fun _ hk=>hk.2) (.int .i64 a2_2)) (fun _ hk=>hk.2) (.int .i64 a2_3)) (fun _ hk=>hk.2) (.int .i64 a2_4)) (fun _ hk=>hk.2) (.slice (some ad128) t123.length co28)) (fun _ hk=>hk.2) (.slice Ao50 t135.length co50)) (fun _ hk=>hk.2) (.int .i64 ((rd_T40 t123 a2_0).f2))) (fun _ hk=>trivial)),RU (Kd.R_mono (Kd.R_far (p:=⟨gb122,7,none⟩) (Kd.R_far (p:=⟨gb122,6,none⟩) (Kd.R_far (p:=⟨gb122,5,none⟩) (Kd.R_far (p:=⟨gb122,4,none⟩) (Kd.R_far (p:=⟨gb122,3,none⟩) (Kd.R_far (p:=⟨gb122,2,none⟩) (Kd.R_far (p:=⟨gb122,1,none⟩) (Kd.R_far (p:=⟨gb122,0,none⟩) (Kd.R_far (p:=⟨gb126,6,none⟩) (Kd.R_types (Kd.R_types HO137.out BK126.out (by decide)) BK122.out (by decide)) (fun _ hk=>hk.1.2) (.slice Ao50 t135.length co50)) (fun _ hk=>hk.2) (.int .i64 a2_0)) (fun _ hk=>hk.2) (.int .i64 a2_1)) (fun _ hk=>hk.2) (.int .i64 a2_2)) (fun _ hk=>hk.2) (.int .i64 a2_3)) (fun _ hk=>hk.2) (.int .i64 a2_4)) (fun _ hk=>hk.2) (.slice (some ad128) t123.length co28)) (fun _ hk=>hk.2) (.slice Ao50 t135.length co50)) (fun _ hk=>hk.2) (.int .i64 ((rd_T40 t123 a2_0).f2))) (fun _ hk=>trivial)),TB⟩
end Go.Proofs.Yteoaegigjlhamaa.PC19
