/- Chapter 19, printed: what the functions compute, and proofs that they do. -/
import Derived.Test.YteoaegigjlhamaaPC19x0
import Derived.Test.YteoaegigjlhamaaPC19x4
namespace Go.Proofs.Yteoaegigjlhamaa.PC19
open Go.RowKit Go.Proofs.YteoaegigjlhamaaW.PrintWords Go.Proofs.YteoaegigjlhamaaW.PrintLast Go.Proofs.YteoaegigjlhamaaW.PrintMore
attribute [local go_sem] max2_int min2_int max_two min_two max_three min_three max_four min_four
set_option linter.unusedVariables false
set_option maxRecDepth 100000
set_option linter.unusedSimpArgs false
def place_laid_seen.l0:Nat→List (S40)→List Int→List (S40)→Int→Int→Int→Int→Int→Int→Int→List (S40)→List Int→Int→Option ((List (S40)) × List Int)
 | 0,_,_,_,_,_,_,_,_,_,_,_,_,_=>none
 | k+1,x2,x3,x14,x15,x16,x139000,x139001,x139002,x139003,x139004,x139005,x139006,x139007=>if x16 < x15 then (if 0≤x16 then (if x16 < (x14.length:Int) then (if ((rd_T40 x14 x16).f4) > 0 then ((some (([(⟨(rd_T40 x14 x16).f0,(rd_T40 x14 x16).f1,(rd_T40 x14 x16).f2,(rd_T40 x14 x16).f3,(rd_T40 x14 x16).f4,(rd_T40 x14 x16).f5⟩:S40)]:List (S40)):List (S40))).bind fun y145=>(if x2.length+y145.length < 2932031007402 then (if 0≤(wrap64 (((rd_T40 x14 x16).f2) - x139007)) then (if (wrap64 (((rd_T40 x14 x16).f2) - x139007)) < (x139006.length:Int) then ((some (([rd x139006 (wrap64 (((rd_T40 x14 x16).f2) - x139007))]:List Int):List Int)).bind fun y152=>(if x3.length+y152.length < 17592186044416 then (place_laid_seen.l0 k (x2++y145) (x3++y152) x14 x15 (wrap64 (x16+1)) x139000 x139001 x139002 x139003 x139004 x139005 x139006 x139007) else (none))) else (none)) else (none)) else (none))) else (place_laid_seen.l0 k x2 x3 x14 x15 (wrap64 (x16+1)) x139000 x139001 x139002 x139003 x139004 x139005 x139006 x139007)) else (none)) else (none)) else (some (x2,x3))
def place_laid_seen.f (k:Nat) (a0_0:Int) (a0_1:Int) (a0_2:Int) (a0_3:Int) (a0_4:Int) (l0_5:List (S40)) (l0_6:List Int) (a0_7:Int):Option ((List (S40)) × List Int):=if 0≤a0_0 then (if a0_0≤a0_2 then (if a0_2≤(l0_5.length:Int) then ((some ((l0_5.take (a0_2:Int).toNat).drop (a0_0:Int).toNat:List (S40))).bind fun y139=>(place_laid_seen.l0 k ([]:List (S40)) ([]:List Int) y139 (y139.length:Int) 0 a0_0 a0_1 a0_2 a0_3 a0_4 l0_5 l0_6 a0_7)) else (none)) else (none)) else (none)
theorem place_laid_seen.mono_l: ∀ k,(∀ y0 y1 y2 y3 y4 y5 y6 y7 y8 y9 y10 y11 y12,LeO (place_laid_seen.l0 k y0 y1 y2 y3 y4 y5 y6 y7 y8 y9 y10 y11 y12) (place_laid_seen.l0 (k+1) y0 y1 y2 y3 y4 y5 y6 y7 y8 y9 y10 y11 y12))
 | 0=>fun _ _ _ _ _ _ _ _ _ _ _ _ _ r h=>by simp [place_laid_seen.l0] at h
 | k+1=>by
  have ih0:=place_laid_seen.mono_l k
  ·
   intros
   unfold place_laid_seen.l0
   exact TL
theorem place_laid_seen.mono: ∀ a0 a1 a2 a3 a4 a5 a6 a7 k,LeO (place_laid_seen.f k a0 a1 a2 a3 a4 a5 a6 a7) (place_laid_seen.f (k+1) a0 a1 a2 a3 a4 a5 a6 a7):=by
 intro a0 a1 a2 a3 a4 a5 a6 a7 k
 have ih0:=place_laid_seen.mono_l k
 unfold place_laid_seen.f
 repeat' first
   | (with_reducible exact ih0 _ _ _ _ _ _ _ _ _ _ _ _ _)
   | (with_reducible exact LeO.refl _)
   | (with_reducible exact LeO.none _)
   | (with_reducible refine LeO.ite ?_ ?_)
   | (with_reducible refine LeO.bind ?_ (fun _=>?_))
def place_laid_seen.T5:Bool × List (List Nat × List Nat):=(true,[([],[]),([],[]),([1],[1]),([0,2],[0,2]),([],[]),([],[]),([5],[5]),([],[]),([7],[7]),([],[]),([9],[9]),([8,10],[8,10]),([6,11],[6,11]),([12],[12]),([13],[13]),([4,14,3],[4,14]),([3,15,0,1,2,3],[0,3]),([15,16,0,1,2,3,4,5,6,7,8,9,10,11,12,13,14,15,16],[4,15])])
def place_laid_seen.B5:List Nat:=[0,0,2,7,0,0,32,0,128,0,512,1920,4064,8160,16352,32767,65535,131071]
theorem place_laid_seen.tab5:rtab .any (opsOf Try.f32 5)=place_laid_seen.T5:=by kernel_rfl
theorem place_laid_seen.bits5:waitsOk place_laid_seen.T5.2 place_laid_seen.B5=true:=by kernel_rfl
set_option maxHeartbeats 8000000 in
theorem place_laid_seen.calls (k:Nat) (a0_0:Int) (a0_1:Int) (a0_2:Int) (a0_3:Int) (a0_4:Int) (A0_5:Option Addr) (c0_5:Nat) (l0_5:List (S40)) (A0_6:Option Addr) (c0_6:Nat) (l0_6:List Int) (a0_7:Int) (r1:List (S40)) (r2:List Int) (w:World) (hr0_5:Kd.C k40 w A0_5 l0_5.length l0_5) (hc0_5:l0_5.length≤c0_5) (hr0_6:Kd.C (Kd.int .i64) w A0_6 l0_6.length l0_6) (hc0_6:l0_6.length≤c0_6) (h:place_laid_seen.f k a0_0 a0_1 a0_2 a0_3 a0_4 l0_5 l0_6 a0_7=some (r1,r2)) :
  Calls Try.prog 32 #[.agg #[.int .i64 a0_0,.int .i64 a0_1,.int .i64 a0_2,.int .i64 a0_3,.int .i64 a0_4,.slice A0_5 l0_5.length c0_5,.slice A0_6 l0_6.length c0_6,.int .i64 a0_7]] w fun e w'=> ∃ v0_ v1_:Value,e= .returned (.tuple #[v0_,v1_])∧Kd.R k40 40 w' w.heap.size (fun _=>True) v0_ r1∧Kd.R (Kd.int .i64) 3 w' w.heap.size (fun _=>True) v1_ r2∧Below w.heap.size w w':=by
 have hu50:=Try.underlying50
 have hu40:=Try.underlying40
 have HR0_5:=Am hr0_5
 have HC0_5:=Am hc0_5
 clear hr0_5 hc0_5
 have HR0_6:=Am hr0_6
 have HC0_6:=Am hc0_6
 clear hr0_6 hc0_6
 have HB:=Am (Below.refl w.heap.size w)
 have H:(if 0≤a0_0 then (if a0_0≤a0_2 then (if a0_2≤(l0_5.length:Int) then ((some ((l0_5.take (a0_2:Int).toNat).drop (a0_0:Int).toNat:List (S40))).bind fun y139=>(place_laid_seen.l0 k ([]:List (S40)) ([]:List Int) y139 (y139.length:Int) 0 a0_0 a0_1 a0_2 a0_3 a0_4 l0_5 l0_6 a0_7)) else (none)) else (none)) else (none))=some (r1,r2):=h
 clear h
 obtain ⟨c2,H⟩:=ifS H
 have c2b0:=eq_true c2
 have c2b1:decide (0≤a0_0)=true:=decide_eq_true c2
 clear c2
 obtain ⟨c3,H⟩:=ifS H
 have c3b0:=eq_true c3
 have c3b1:decide (a0_0≤a0_2)=true:=decide_eq_true c3
 clear c3
 obtain ⟨c4,H⟩:=ifS H
 have c4b0:=eq_true c4
 have c4b1:decide (a0_2≤(l0_5.length:Int))=true:=decide_eq_true c4
 clear c4
 obtain ⟨y139,hy139⟩: ∃ y_:List (S40),y_=((l0_5.take (a0_2:Int).toNat).drop (a0_0:Int).toNat):=⟨_,rfl⟩
 replace H:(place_laid_seen.l0 k ([]:List (S40)) ([]:List Int) y139 (y139.length:Int) 0 a0_0 a0_1 a0_2 a0_3 a0_4 l0_5 l0_6 a0_7)=some (r1,r2):=by first|(rw [hy139];with_reducible exact H)|(have H2_:=(Option.bind_some _ _).symm.trans H;rw [hy139];with_reducible exact H2_)|(have H2_:=(Option.bind_some _ _).symm.trans H;with_reducible exact H2_)|with_reducible exact H|(rw [hy139];exact H)|exact H
 have Ny139:=Am hy139
 clear hy139
 have H':=Am H
 clear H
 go_enter Try.func32,Try.ntmps32
 try dsimp only [List.append]
 go_wp2_with (first|((with_reducible refine gate_dst (N:=1) rfl ?_);refine box_event ?hg (N:=1) ?hd (cs:= #[.int .i64 a0_0,.int .i64 a0_1,.int .i64 a0_2,.int .i64 a0_3,.int .i64 a0_4,.slice A0_5 l0_5.length c0_5,.slice A0_6 l0_6.length c0_6,.int .i64 a0_7]) (t:=50) ?hr ?_;(case hd=>rfl);(case hg=>rfl);(case hr=>exact TG);intro gb138 hg w5 hbox hb;have BK138:=Am (hbox);have GW138:=Am (gwS hg);have GE138:=Am (gwS hg);replace HB:=Am (below_step TB hb);clear hb hbox hg;obtain ⟨hcz6_0,hcz6_1,hcz6_2,hcz6_3,hcz6_4,hcz6_5,hcz6_6,hcz6_7⟩:=blkC8 BK138.out;obtain ⟨hfz6_0,hfz6_1,hfz6_2,hfz6_3,hfz6_4,hfz6_5,hfz6_6,hfz6_7⟩:=blkF8 BK138.out;have q7:(a0_2:Int)≤((l0_5.length:Int):Int):=tD;obtain ⟨i07,hi07,_,hsz7,_⟩:=info_parts info40;have hroom7:l0_5.length≤c0_5:=HC0_5.out;have hC7:Kd.C k40 _ A0_5 l0_5.length l0_5:=HR0_5.out;have ql7:(a0_0:Int)≤(a0_2:Int):=tD;have q07:(0:Int)≤(a0_0:Int):=tD;have hcut7:=cut_mid (P:=Try.prog) 37 40 .i64 .i64 Try.underlying37 hi07 6 hsz7 A0_5 l0_5.length c0_5 a0_0 a0_2 q07 ql7 q7 hroom7;have hr7:=Kd.C_mid (lo:=(a0_0:Int).toNat) (hi:=(a0_2:Int).toNat) (c:=c0_5) hC7 (by omega) (by omega) hroom7;obtain ⟨A7,hA7⟩: ∃ A1,A1=(if c0_5=(a0_0:Int).toNat then A0_5 else (A0_5:Option Addr).map (·.add ((a0_0:Int).toNat * 6))):=⟨_,rfl⟩;obtain ⟨c7,hc7⟩: ∃ c1,c1=c0_5 - (a0_0:Int).toNat:=⟨_,rfl⟩;have hy7:y139.length=(a0_2:Int).toNat - (a0_0:Int).toNat:=(by rw [Ny139.out,List.length_drop,List.length_take] <;> omega);rw [show ((l0_5).take (a0_2:Int).toNat).drop (a0_0:Int).toNat=y139 from Ny139.out.symm] at hr7;replace hr7:Kd.C k40 _ A7 y139.length y139:=(by rw [hA7];exact hr7);rw [← hy7,← hA7,← hc7] at hcut7;have HR142:=Am hr7;have HC142:=Am (show y139.length≤c7 from by rw [hy7,hc7];exact Nat.sub_le_sub_right (Nat.le_trans (by omega) hroom7) _);clear hr7 hC7 hroom7 hi07 hsz7 hc7;have KY7:=Am hy7;have KA7:=Am hA7;clear hy7 hA7;replace q7:=eq_true q7))
 go_loopg [2,3,16] k (fun kq v2 v3 v16 w'=> ∃ (x2_1:List (S40)) (x3_1:List Int) (x16_1:Int),v16= .int .i64 x16_1∧Aside0 (place_laid_seen.l0 kq x2_1 x3_1 y139 (y139.length:Int) x16_1 a0_0 a0_1 a0_2 a0_3 a0_4 l0_5 l0_6 a0_7=some (r1,r2))∧Aside0 (kq≤k)∧Aside0 (Kd.R k40 40 w' w.heap.size (fun _=>True) v2 x2_1)∧Aside0 (Kd.R (Kd.int .i64) 3 w' w.heap.size (fun _=>True) v3 x3_1)∧Aside0 (w'.heap[gb138]?=some (.cells #[.int .i64 a0_0,.int .i64 a0_1,.int .i64 a0_2,.int .i64 a0_3,.int .i64 a0_4,(.slice A0_5 l0_5.length c0_5),(.slice A0_6 l0_6.length c0_6),.int .i64 a0_7] 50 (0,0)))∧Aside0 (Below w.heap.size w w'))
 case atStart=>exact ⟨(([]:List (S40))),(([]:List Int)),(0),TS,H',⟨Nat.le_refl _⟩,⟨by first|exact Kd.R_nil _ _ _ _ _|exact Kd.N_nil _ _ _ _ _|exact Kd.V_nil _ _ _ _ _|exact Kd.Q_nil _ _ _ _ _|exact Kd.S_nil _ _ _ _ _⟩,⟨by first|exact Kd.R_nil _ _ _ _ _|exact Kd.N_nil _ _ _ _ _|exact Kd.V_nil _ _ _ _ _|exact Kd.Q_nil _ _ _ _ _|exact Kd.S_nil _ _ _ _ _⟩,⟨blkU BK138.out⟩,⟨TB⟩⟩
 case round =>
  clear H'
  obtain ⟨x2_1,x3_1,x16_1,rfl,HA,HK1,HO_2,HO_3,BK138,HB⟩:=hrel
  cases gk with
  | zero=>exact absurd HA.out (by simp [place_laid_seen.l0])
  | succ k1 =>
   have H:=HA.out
   clear HA
   simp only [place_laid_seen.l0] at H
   by_cases c8:x16_1 < (y139.length:Int)
   rotate_left
   ·
    rw [if_neg c8] at H
    have c8b0:decide (x16_1 < (y139.length:Int))=false:=decide_eq_false c8
    clear c8
    simp only [Option.some.injEq,Prod.mk.injEq] at H
    obtain ⟨rfl,rfl⟩:=H
    go_wp2
    go_ret2
    exact ⟨_,_,TE,RU HO_2.out,RU HO_3.out,TB⟩
   rw [if_pos c8] at H
   have c8b0:decide (x16_1 < (y139.length:Int))=true:=decide_eq_true c8
   clear c8
   obtain ⟨c9,H⟩:=ifS H
   have c9b0:decide (0≤x16_1)=true:=decide_eq_true c9
   clear c9
   obtain ⟨c10,H⟩:=ifS H
   have c10b0:decide (x16_1 < (y139.length:Int))=true:=decide_eq_true c10
   clear c10
   by_cases c11:((rd_T40 y139 x16_1).f4) > 0
   rotate_left
   ·
    rw [if_neg c11] at H
    have c11b0:decide (0 < ((rd_T40 y139 x16_1).f4))=false:=decide_eq_false c11
    clear c11
    have H':=Am H
    clear H
    have p143:0≤(x16_1:Int):=tD
    have q143:x16_1 < (y139.length:Int):=tD
    obtain ⟨ad143,e143,hx143_0,hx143_1,hx143_2,hx143_3,hx143_4,hx143_5⟩:=at_T40 HR142.out x16_1 p143 q143
    cases e143
    replace hx143_0:=cellU HB.out hx143_0
    replace hx143_1:=cellU HB.out hx143_1
    replace hx143_2:=cellU HB.out hx143_2
    replace hx143_3:=cellU HB.out hx143_3
    replace hx143_4:=cellU HB.out hx143_4
    replace hx143_5:=cellU HB.out hx143_5
    replace p143:=eq_true p143
    replace q143:=eq_true q143
    go_wp2_with (first|((with_reducible refine gate_dst (N:=5) rfl ?_);refine box_event ?hg (N:=5) ?hd (cs:= #[.int .i64 0,.int .i64 0,.int .i64 0,.int .i64 0,.int .i64 0,.int .i64 0]) (t:=40) ?hr ?_;(case hd=>rfl);(case hg=>rfl);(case hr=>exact TG);intro gb144 hg w33 hbox hb;replace HO_2:=Am (Kd.R_below (Kd.R_elderB (RU HO_2.out) gb144 (Nat.le_of_eq hg.symm)) hb);replace HO_3:=Am (Kd.R_below (RU HO_3.out) hb);have BK144:=Am (hbox);have GW144:=Am (gwS hg);have GE144:=Am (gwS hg);have NB138_144:=Am (ltS hg (blkU BK138.out));have NB144_138:=Am (gtS hg (blkU BK138.out));replace BK138:=Am (blk_below (blkU BK138.out) hb);replace HB:=Am (below_step TB hb);clear hb hbox hg;have hnb34:=NB144_138.out;have hnc34:=NB138_144.out;obtain ⟨hcz35_0,hcz35_1,hcz35_2,hcz35_3,hcz35_4,hcz35_5⟩:=blkC6 BK144.out;obtain ⟨hfz35_0,hfz35_1,hfz35_2,hfz35_3,hfz35_4,hfz35_5⟩:=blkF6 BK144.out))
    go_roundg k1
    case measure=>have:=HK1.out;omega
    case rel=>exact ⟨(x2_1),(x3_1),(wrap64 (x16_1+1)),TS,H',⟨by have:=HK1.out;omega⟩,⟨RU (Kd.R_mono (Kd.R_far (p:=⟨gb144,5,none⟩) (Kd.R_far (p:=⟨gb144,4,none⟩) (Kd.R_far (p:=⟨gb144,3,none⟩) (Kd.R_far (p:=⟨gb144,2,none⟩) (Kd.R_far (p:=⟨gb144,1,none⟩) (Kd.R_far (p:=⟨gb144,0,none⟩) (Kd.R_mono HO_2.out (fun k_ hk=>(⟨hk,hk.2⟩:_∧k_≠gb144))) (fun _ hk=>hk.2) (.int .i64 ((rd_T40 y139 x16_1).f0))) (fun _ hk=>hk.2) (.int .i64 ((rd_T40 y139 x16_1).f1))) (fun _ hk=>hk.2) (.int .i64 ((rd_T40 y139 x16_1).f2))) (fun _ hk=>hk.2) (.int .i64 ((rd_T40 y139 x16_1).f3))) (fun _ hk=>hk.2) (.int .i64 ((rd_T40 y139 x16_1).f4))) (fun _ hk=>hk.2) (.int .i64 ((rd_T40 y139 x16_1).f5))) (fun _ hk=>trivial))⟩,⟨RU (Kd.R_mono (Kd.R_far (p:=⟨gb144,5,none⟩) (Kd.R_far (p:=⟨gb144,4,none⟩) (Kd.R_far (p:=⟨gb144,3,none⟩) (Kd.R_far (p:=⟨gb144,2,none⟩) (Kd.R_far (p:=⟨gb144,1,none⟩) (Kd.R_far (p:=⟨gb144,0,none⟩) (Kd.R_types HO_3.out BK144.out (by decide)) (fun _ hk=>hk.2) (.int .i64 ((rd_T40 y139 x16_1).f0))) (fun _ hk=>hk.2) (.int .i64 ((rd_T40 y139 x16_1).f1))) (fun _ hk=>hk.2) (.int .i64 ((rd_T40 y139 x16_1).f2))) (fun _ hk=>hk.2) (.int .i64 ((rd_T40 y139 x16_1).f3))) (fun _ hk=>hk.2) (.int .i64 ((rd_T40 y139 x16_1).f4))) (fun _ hk=>hk.2) (.int .i64 ((rd_T40 y139 x16_1).f5))) (fun _ hk=>trivial))⟩,⟨by refine blk_far ?_ NB138_144.out _;refine blk_far ?_ NB138_144.out _;refine blk_far ?_ NB138_144.out _;refine blk_far ?_ NB138_144.out _;refine blk_far ?_ NB138_144.out _;refine blk_far ?_ NB138_144.out _;exact BK138.out⟩,⟨TB⟩⟩
   rw [if_pos c11] at H
   have c11b0:decide (0 < ((rd_T40 y139 x16_1).f4))=true:=decide_eq_true c11
   clear c11
   obtain ⟨y145,hy145⟩: ∃ y_:List (S40),y_=(([(⟨(rd_T40 y139 x16_1).f0,(rd_T40 y139 x16_1).f1,(rd_T40 y139 x16_1).f2,(rd_T40 y139 x16_1).f3,(rd_T40 y139 x16_1).f4,(rd_T40 y139 x16_1).f5⟩:S40)]:List (S40))):=⟨_,rfl⟩
   replace H:(if x2_1.length+y145.length < 2932031007402 then (if 0≤(wrap64 (((rd_T40 y139 x16_1).f2) - a0_7)) then (if (wrap64 (((rd_T40 y139 x16_1).f2) - a0_7)) < (l0_6.length:Int) then ((some (([rd l0_6 (wrap64 (((rd_T40 y139 x16_1).f2) - a0_7))]:List Int):List Int)).bind fun y152=>(if x3_1.length+y152.length < 17592186044416 then (place_laid_seen.l0 k1 (x2_1++y145) (x3_1++y152) y139 (y139.length:Int) (wrap64 (x16_1+1)) a0_0 a0_1 a0_2 a0_3 a0_4 l0_5 l0_6 a0_7) else (none))) else (none)) else (none)) else (none))=some (r1,r2):=by first|(rw [hy145];with_reducible exact H)|(have H2_:=(Option.bind_some _ _).symm.trans H;rw [hy145];with_reducible exact H2_)|(have H2_:=(Option.bind_some _ _).symm.trans H;with_reducible exact H2_)|with_reducible exact H|(rw [hy145];exact H)|exact H
   have Ny145:=Am hy145
   clear hy145
   obtain ⟨c12,H⟩:=ifS H
   have LMc12:=Am c12
   clear c12
   obtain ⟨y148,hy148⟩: ∃ y_:List (S40),y_=(x2_1++y145):=⟨_,rfl⟩
   replace H:(if 0≤(wrap64 (((rd_T40 y139 x16_1).f2) - a0_7)) then (if (wrap64 (((rd_T40 y139 x16_1).f2) - a0_7)) < (l0_6.length:Int) then ((some (([rd l0_6 (wrap64 (((rd_T40 y139 x16_1).f2) - a0_7))]:List Int):List Int)).bind fun y152=>(if x3_1.length+y152.length < 17592186044416 then (place_laid_seen.l0 k1 y148 (x3_1++y152) y139 (y139.length:Int) (wrap64 (x16_1+1)) a0_0 a0_1 a0_2 a0_3 a0_4 l0_5 l0_6 a0_7) else (none))) else (none)) else (none))=some (r1,r2):=by first|(rw [hy148];with_reducible exact H)|(have H2_:=(Option.bind_some _ _).symm.trans H;rw [hy148];with_reducible exact H2_)|(have H2_:=(Option.bind_some _ _).symm.trans H;with_reducible exact H2_)|with_reducible exact H|(rw [hy148];exact H)|exact H
   have Ny148:=Am hy148
   clear hy148
   obtain ⟨ji13,hji13⟩: ∃ j_:Int,(wrap64 (((rd_T40 y139 x16_1).f2) - a0_7))=j_:=⟨_,rfl⟩
   replace H:(if 0≤(ji13) then (if (ji13) < (l0_6.length:Int) then ((some (([rd l0_6 (ji13)]:List Int):List Int)).bind fun y152=>(if x3_1.length+y152.length < 17592186044416 then (place_laid_seen.l0 k1 y148 (x3_1++y152) y139 (y139.length:Int) (wrap64 (x16_1+1)) a0_0 a0_1 a0_2 a0_3 a0_4 l0_5 l0_6 a0_7) else (none))) else (none)) else (none))=some (r1,r2):=by first|(rw [hji13] at H;exact H)|(simp only [hji13] at H ⊢;exact H)
   have hji13w:(IntKind.i64.wrap (((rd_T40 y139 x16_1).f2) - a0_7))=ji13:=(i64_w _).trans hji13
   obtain ⟨c14,H⟩:=ifS H
   have c14b0:decide (0≤(ji13))=true:=decide_eq_true c14
   clear c14
   obtain ⟨c15,H⟩:=ifS H
   have c15b0:decide ((ji13) < (l0_6.length:Int))=true:=decide_eq_true c15
   clear c15
   obtain ⟨y152,hy152⟩: ∃ y_:List Int,y_=(([rd l0_6 (ji13)]:List Int)):=⟨_,rfl⟩
   replace H:(if x3_1.length+y152.length < 17592186044416 then (place_laid_seen.l0 k1 y148 (x3_1++y152) y139 (y139.length:Int) (wrap64 (x16_1+1)) a0_0 a0_1 a0_2 a0_3 a0_4 l0_5 l0_6 a0_7) else (none))=some (r1,r2):=by first|(rw [hy152];with_reducible exact H)|(have H2_:=(Option.bind_some _ _).symm.trans H;rw [hy152];with_reducible exact H2_)|(have H2_:=(Option.bind_some _ _).symm.trans H;with_reducible exact H2_)|with_reducible exact H|(rw [hy152];exact H)|exact H
   have Ny152:=Am hy152
   clear hy152
   obtain ⟨c16,H⟩:=ifS H
   have LMc16:=Am c16
   clear c16
   obtain ⟨y155,hy155⟩: ∃ y_:List Int,y_=(x3_1++y152):=⟨_,rfl⟩
   replace H:(place_laid_seen.l0 k1 y148 y155 y139 (y139.length:Int) (wrap64 (x16_1+1)) a0_0 a0_1 a0_2 a0_3 a0_4 l0_5 l0_6 a0_7)=some (r1,r2):=by first|(rw [hy155];with_reducible exact H)|(have H2_:=(Option.bind_some _ _).symm.trans H;rw [hy155];with_reducible exact H2_)|(have H2_:=(Option.bind_some _ _).symm.trans H;with_reducible exact H2_)|with_reducible exact H|(rw [hy155];exact H)|exact H
   have Ny155:=Am hy155
   clear hy155
   have H':=Am H
   clear H
   have p143:0≤(x16_1:Int):=tD
   have q143:x16_1 < (y139.length:Int):=tD
   obtain ⟨ad143,e143,hx143_0,hx143_1,hx143_2,hx143_3,hx143_4,hx143_5⟩:=at_T40 HR142.out x16_1 p143 q143
   cases e143
   replace hx143_0:=cellU HB.out hx143_0
   replace hx143_1:=cellU HB.out hx143_1
   replace hx143_2:=cellU HB.out hx143_2
   replace hx143_3:=cellU HB.out hx143_3
   replace hx143_4:=cellU HB.out hx143_4
   replace hx143_5:=cellU HB.out hx143_5
   replace p143:=eq_true p143
   replace q143:=eq_true q143
   try go_wp2_with (first|((with_reducible refine gate_dst (N:=5) rfl ?_);refine box_event ?hg (N:=5) ?hd (cs:= #[.int .i64 0,.int .i64 0,.int .i64 0,.int .i64 0,.int .i64 0,.int .i64 0]) (t:=40) ?hr ?_;(case hd=>rfl);(case hg=>rfl);(case hr=>exact TG);intro gb144 hg w17 hbox hb;replace HO_2:=Am (Kd.R_below (Kd.R_elderB (RU HO_2.out) gb144 (Nat.le_of_eq hg.symm)) hb);replace HO_3:=Am (Kd.R_below (RU HO_3.out) hb);have BK144:=Am (hbox);have GW144:=Am (gwS hg);have GE144:=Am (gwS hg);have NB138_144:=Am (ltS hg (blkU BK138.out));have NB144_138:=Am (gtS hg (blkU BK138.out));replace BK138:=Am (blk_below (blkU BK138.out) hb);replace HB:=Am (below_step TB hb);clear hb hbox hg;have hnb18:=NB144_138.out;have hnc18:=NB138_144.out;obtain ⟨hcz19_0,hcz19_1,hcz19_2,hcz19_3,hcz19_4,hcz19_5⟩:=blkC6 BK144.out;obtain ⟨hfz19_0,hfz19_1,hfz19_2,hfz19_3,hfz19_4,hfz19_5⟩:=blkF6 BK144.out;obtain ⟨Ao20,co20,eo20⟩:=Kd.R_slice HO_2.out;subst eo20;obtain ⟨Ao21,co21,eo21⟩:=Kd.R_slice HO_3.out;subst eo21))
   have n0_:Aside0 (Kd.R k40 40 ((((((w17.setCell ⟨gb144,0,none⟩ (.int .i64 ((rd_T40 y139 x16_1).f0))).setCell ⟨gb144,1,none⟩ (.int .i64 ((rd_T40 y139 x16_1).f1))).setCell ⟨gb144,2,none⟩ (.int .i64 ((rd_T40 y139 x16_1).f2))).setCell ⟨gb144,3,none⟩ (.int .i64 ((rd_T40 y139 x16_1).f3))).setCell ⟨gb144,4,none⟩ (.int .i64 ((rd_T40 y139 x16_1).f4))).setCell ⟨gb144,5,none⟩ (.int .i64 ((rd_T40 y139 x16_1).f5))) w.heap.size (fun k_=>k_≠gb144) (.slice Ao20 x2_1.length co20) x2_1):=⟨RU (Kd.R_mono (Kd.R_far (p:=⟨gb144,5,none⟩) (Kd.R_far (p:=⟨gb144,4,none⟩) (Kd.R_far (p:=⟨gb144,3,none⟩) (Kd.R_far (p:=⟨gb144,2,none⟩) (Kd.R_far (p:=⟨gb144,1,none⟩) (Kd.R_far (p:=⟨gb144,0,none⟩) (Kd.R_mono HO_2.out (fun k_ hk=>(⟨hk,hk.2⟩:_∧k_≠gb144))) (fun _ hk=>hk.2) (.int .i64 ((rd_T40 y139 x16_1).f0))) (fun _ hk=>hk.2) (.int .i64 ((rd_T40 y139 x16_1).f1))) (fun _ hk=>hk.2) (.int .i64 ((rd_T40 y139 x16_1).f2))) (fun _ hk=>hk.2) (.int .i64 ((rd_T40 y139 x16_1).f3))) (fun _ hk=>hk.2) (.int .i64 ((rd_T40 y139 x16_1).f4))) (fun _ hk=>hk.2) (.int .i64 ((rd_T40 y139 x16_1).f5))) (fun _ hk=>hk.1.2))⟩
   have n1_:Aside0 (Kd.R (Kd.int .i64) 3 ((((((w17.setCell ⟨gb144,0,none⟩ (.int .i64 ((rd_T40 y139 x16_1).f0))).setCell ⟨gb144,1,none⟩ (.int .i64 ((rd_T40 y139 x16_1).f1))).setCell ⟨gb144,2,none⟩ (.int .i64 ((rd_T40 y139 x16_1).f2))).setCell ⟨gb144,3,none⟩ (.int .i64 ((rd_T40 y139 x16_1).f3))).setCell ⟨gb144,4,none⟩ (.int .i64 ((rd_T40 y139 x16_1).f4))).setCell ⟨gb144,5,none⟩ (.int .i64 ((rd_T40 y139 x16_1).f5))) w.heap.size (fun _=>True) (.slice Ao21 x3_1.length co21) x3_1):=⟨RU (Kd.R_mono (Kd.R_far (p:=⟨gb144,5,none⟩) (Kd.R_far (p:=⟨gb144,4,none⟩) (Kd.R_far (p:=⟨gb144,3,none⟩) (Kd.R_far (p:=⟨gb144,2,none⟩) (Kd.R_far (p:=⟨gb144,1,none⟩) (Kd.R_far (p:=⟨gb144,0,none⟩) (Kd.R_types HO_3.out BK144.out (by decide)) (fun _ hk=>hk.2) (.int .i64 ((rd_T40 y139 x16_1).f0))) (fun _ hk=>hk.2) (.int .i64 ((rd_T40 y139 x16_1).f1))) (fun _ hk=>hk.2) (.int .i64 ((rd_T40 y139 x16_1).f2))) (fun _ hk=>hk.2) (.int .i64 ((rd_T40 y139 x16_1).f3))) (fun _ hk=>hk.2) (.int .i64 ((rd_T40 y139 x16_1).f4))) (fun _ hk=>hk.2) (.int .i64 ((rd_T40 y139 x16_1).f5))) (fun _ hk=>trivial))⟩
   have n2_:Aside0 (((((((w17.setCell ⟨gb144,0,none⟩ (.int .i64 ((rd_T40 y139 x16_1).f0))).setCell ⟨gb144,1,none⟩ (.int .i64 ((rd_T40 y139 x16_1).f1))).setCell ⟨gb144,2,none⟩ (.int .i64 ((rd_T40 y139 x16_1).f2))).setCell ⟨gb144,3,none⟩ (.int .i64 ((rd_T40 y139 x16_1).f3))).setCell ⟨gb144,4,none⟩ (.int .i64 ((rd_T40 y139 x16_1).f4))).setCell ⟨gb144,5,none⟩ (.int .i64 ((rd_T40 y139 x16_1).f5))).heap[gb138]?=some (.cells #[.int .i64 a0_0,.int .i64 a0_1,.int .i64 a0_2,.int .i64 a0_3,.int .i64 a0_4,.slice A0_5 l0_5.length c0_5,.slice A0_6 l0_6.length c0_6,.int .i64 a0_7] 50 (0,0))):=⟨by refine blk_far ?_ NB138_144.out _;refine blk_far ?_ NB138_144.out _;refine blk_far ?_ NB138_144.out _;refine blk_far ?_ NB138_144.out _;refine blk_far ?_ NB138_144.out _;refine blk_far ?_ NB138_144.out _;exact BK138.out⟩
   have n3_:Aside0 (((((((w17.setCell ⟨gb144,0,none⟩ (.int .i64 ((rd_T40 y139 x16_1).f0))).setCell ⟨gb144,1,none⟩ (.int .i64 ((rd_T40 y139 x16_1).f1))).setCell ⟨gb144,2,none⟩ (.int .i64 ((rd_T40 y139 x16_1).f2))).setCell ⟨gb144,3,none⟩ (.int .i64 ((rd_T40 y139 x16_1).f3))).setCell ⟨gb144,4,none⟩ (.int .i64 ((rd_T40 y139 x16_1).f4))).setCell ⟨gb144,5,none⟩ (.int .i64 ((rd_T40 y139 x16_1).f5))).heap[gb144]?=some (.cells #[.int .i64 ((rd_T40 y139 x16_1).f0),.int .i64 ((rd_T40 y139 x16_1).f1),.int .i64 ((rd_T40 y139 x16_1).f2),.int .i64 ((rd_T40 y139 x16_1).f3),.int .i64 ((rd_T40 y139 x16_1).f4),.int .i64 ((rd_T40 y139 x16_1).f5)] 40 (0,0))):=⟨by refine blk_put (cs:= #[.int .i64 ((rd_T40 y139 x16_1).f0),.int .i64 ((rd_T40 y139 x16_1).f1),.int .i64 ((rd_T40 y139 x16_1).f2),.int .i64 ((rd_T40 y139 x16_1).f3),.int .i64 ((rd_T40 y139 x16_1).f4),.int .i64 0]) ?_ 5 _ rfl;refine blk_put (cs:= #[.int .i64 ((rd_T40 y139 x16_1).f0),.int .i64 ((rd_T40 y139 x16_1).f1),.int .i64 ((rd_T40 y139 x16_1).f2),.int .i64 ((rd_T40 y139 x16_1).f3),.int .i64 0,.int .i64 0]) ?_ 4 _ rfl;refine blk_put (cs:= #[.int .i64 ((rd_T40 y139 x16_1).f0),.int .i64 ((rd_T40 y139 x16_1).f1),.int .i64 ((rd_T40 y139 x16_1).f2),.int .i64 0,.int .i64 0,.int .i64 0]) ?_ 3 _ rfl;refine blk_put (cs:= #[.int .i64 ((rd_T40 y139 x16_1).f0),.int .i64 ((rd_T40 y139 x16_1).f1),.int .i64 0,.int .i64 0,.int .i64 0,.int .i64 0]) ?_ 2 _ rfl;refine blk_put (cs:= #[.int .i64 ((rd_T40 y139 x16_1).f0),.int .i64 0,.int .i64 0,.int .i64 0,.int .i64 0,.int .i64 0]) ?_ 1 _ rfl;refine blk_put (cs:= #[.int .i64 0,.int .i64 0,.int .i64 0,.int .i64 0,.int .i64 0,.int .i64 0]) ?_ 0 _ rfl;exact BK144.out⟩
   have n4_:Aside0 (Below w.heap.size w ((((((w17.setCell ⟨gb144,0,none⟩ (.int .i64 ((rd_T40 y139 x16_1).f0))).setCell ⟨gb144,1,none⟩ (.int .i64 ((rd_T40 y139 x16_1).f1))).setCell ⟨gb144,2,none⟩ (.int .i64 ((rd_T40 y139 x16_1).f2))).setCell ⟨gb144,3,none⟩ (.int .i64 ((rd_T40 y139 x16_1).f3))).setCell ⟨gb144,4,none⟩ (.int .i64 ((rd_T40 y139 x16_1).f4))).setCell ⟨gb144,5,none⟩ (.int .i64 ((rd_T40 y139 x16_1).f5)))):=⟨TB⟩
   (try clear HO_2)
   (try clear HO_3)
   (try clear BK138)
   (try clear BK144)
   (try clear HB)
   generalize ((((((w17.setCell ⟨gb144,0,none⟩ (.int .i64 ((rd_T40 y139 x16_1).f0))).setCell ⟨gb144,1,none⟩ (.int .i64 ((rd_T40 y139 x16_1).f1))).setCell ⟨gb144,2,none⟩ (.int .i64 ((rd_T40 y139 x16_1).f2))).setCell ⟨gb144,3,none⟩ (.int .i64 ((rd_T40 y139 x16_1).f3))).setCell ⟨gb144,4,none⟩ (.int .i64 ((rd_T40 y139 x16_1).f4))).setCell ⟨gb144,5,none⟩ (.int .i64 ((rd_T40 y139 x16_1).f5)))=w22 at n0_ n1_ n2_ n3_ n4_ ⊢
   have HO_2:=n0_
   have HO_3:=n1_
   have BK138:=n2_
   have BK144:=n3_
   have HB:=n4_
   clear n0_ n1_ n2_ n3_ n4_
   replace HO_2:=Am (Kd.R_drew HO_2.out)
   replace HO_3:=Am (Kd.R_drew HO_3.out)
   replace BK138:=Am (blk_drew BK138.out)
   replace BK144:=Am (blk_drew BK144.out)
   replace HB:=Am (below_drew1 HB.out)
   have p151:0≤((ji13):Int):=tD
   have q151:(ji13) < (l0_6.length:Int):=tD
   obtain ⟨ad151,e151,hx151_0⟩:=Kd.at_int HR0_6.out (ji13) p151 q151
   have hw151_0:=hx151_0
   cases e151
   replace hx151_0:=cellU HB.out hx151_0
   replace p151:=eq_true p151
   replace q151:=eq_true q151
   refine start_ (n:=18) (S:=fun w'=>w'.cell? ⟨gb144,0,none⟩=some (.int .i64 ((rd_T40 y139 x16_1).f0))∧w'.cell? ⟨gb144,1,none⟩=some (.int .i64 ((rd_T40 y139 x16_1).f1))∧w'.cell? ⟨gb144,2,none⟩=some (.int .i64 ((rd_T40 y139 x16_1).f2))∧w'.cell? ⟨gb144,3,none⟩=some (.int .i64 ((rd_T40 y139 x16_1).f3))∧w'.cell? ⟨gb144,4,none⟩=some (.int .i64 ((rd_T40 y139 x16_1).f4))∧w'.cell? ⟨gb144,5,none⟩=some (.int .i64 ((rd_T40 y139 x16_1).f5))∧w'.cell? ⟨gb138,0,none⟩=some (.int .i64 a0_0)∧w'.cell? ⟨gb138,1,none⟩=some (.int .i64 a0_1)∧w'.cell? ⟨gb138,2,none⟩=some (.int .i64 a0_2)∧w'.cell? ⟨gb138,3,none⟩=some (.int .i64 a0_3)∧w'.cell? ⟨gb138,4,none⟩=some (.int .i64 a0_4)∧w'.cell? ⟨gb138,5,none⟩=some (.slice A0_5 l0_5.length c0_5)∧w'.cell? ⟨gb138,6,none⟩=some (.slice (some ad151) l0_6.length c0_6)∧w'.cell? ⟨gb138,7,none⟩=some (.int .i64 a0_7)∧w'.cell? (ad151.add ((ji13)).toNat)=some (.int .i64 (rd l0_6 (ji13)))) (ds:=[]) (bl 18 0) TK rfl rfl ⟨(blk_cell BK144.out 0).trans rfl,(blk_cell BK144.out 1).trans rfl,(blk_cell BK144.out 2).trans rfl,(blk_cell BK144.out 3).trans rfl,(blk_cell BK144.out 4).trans rfl,(blk_cell BK144.out 5).trans rfl,(blk_cell BK138.out 0).trans rfl,(blk_cell BK138.out 1).trans rfl,(blk_cell BK138.out 2).trans rfl,(blk_cell BK138.out 3).trans rfl,(blk_cell BK138.out 4).trans rfl,(blk_cell BK138.out 5).trans rfl,(blk_cell BK138.out 6).trans rfl,(blk_cell BK138.out 7).trans rfl,(cellU HB.out hw151_0)⟩ (fun hHeld=>?_);refine with_tabW place_laid_seen.tab5 place_laid_seen.bits5 (fun HT_ HW_=>?_)
   generalize w22.drew=w23 at HO_2 HO_3 BK138 BK144 HB hx151_0 hHeld ⊢
   refine pureS (i:=0) (N:=some 23) (bl 18 1) rfl rfl (any_of HT_.out TK) ?_
   refine pureS (i:=4) (N:=some 27) (bl 18 17) rfl rfl (any_of HT_.out TK) ?_
   refine pureS (i:=5) (N:=some 28) (bl 18 49) rfl rfl (any_of HT_.out TK) ?_
   refine pureS (i:=7) (N:=some 30) (bl 18 177) rfl rfl (any_of HT_.out TK) ?_
   refine pureS (i:=9) (N:=some 32) (bl 18 689) rfl rfl (any_of HT_.out TK) ?_
   refine take_ (i:=1) (N:=some 24) (v:=?_) (a':=?_) (bl 18 691) rfl rfl (take_ofW HT_.out HW_.out TK) (fun _ _ _ h=>h) (Or.inl ⟨by rfl,?_⟩) hHeld ?_ ?_
   rotate_left
   ·
    rintro w' ⟨s0,s1,s2,s3,s4,s5,s6,s7,s8,s9,s10,s11,s12,s13,s14⟩
    go_simp
    with_reducible rfl
   rotate_left
   ·
    simp only [PT]
    rfl
   refine take_ (i:=6) (N:=some 29) (v:=?_) (a':=?_) (bl 18 755) rfl rfl (take_ofW HT_.out HW_.out TK) (fun _ _ _ h=>h) (Or.inl ⟨by rfl,?_⟩) hHeld ?_ ?_
   rotate_left
   ·
    rintro w' ⟨s0,s1,s2,s3,s4,s5,s6,s7,s8,s9,s10,s11,s12,s13,s14⟩
    go_simp
    with_reducible rfl
   rotate_left
   ·
    simp only [PT]
    rfl
   refine take_ (i:=8) (N:=some 31) (v:=?_) (a':=?_) (bl 18 1011) rfl rfl (take_ofW HT_.out HW_.out TK) (fun _ _ _ h=>h) (Or.inl ⟨by rfl,?_⟩) hHeld ?_ ?_
   rotate_left
   ·
    rintro w' ⟨s0,s1,s2,s3,s4,s5,s6,s7,s8,s9,s10,s11,s12,s13,s14⟩
    go_simp
    with_reducible rfl
   rotate_left
   ·
    simp only [PT]
    rfl
   refine take_ (i:=10) (N:=some 33) (v:=?_) (a':=?_) (bl 18 2035) rfl rfl (take_ofW HT_.out HW_.out TK) (fun _ _ _ h=>h) (Or.inl ⟨by rfl,?_⟩) hHeld ?_ ?_
   rotate_left
   ·
    rintro w' ⟨s0,s1,s2,s3,s4,s5,s6,s7,s8,s9,s10,s11,s12,s13,s14⟩
    go_simp
    with_reducible rfl
   rotate_left
   ·
    simp only [PT]
    rfl
   refine pureS (i:=11) (N:=some 34) (bl 18 4083) rfl rfl (any_of HT_.out TK) ?_
   refine pureS (i:=12) (N:=some 35) (bl 18 8179) rfl rfl (any_of HT_.out TK) ?_
   refine take_ (i:=13) (N:=some 36) (v:=?_) (a':=?_) (bl 18 16371) rfl rfl (take_ofW HT_.out HW_.out TK) (fun _ _ _ h=>h) (Or.inl ⟨by rfl,?_⟩) hHeld ?_ ?_
   rotate_left
   ·
    rintro w' ⟨s0,s1,s2,s3,s4,s5,s6,s7,s8,s9,s10,s11,s12,s13,s14⟩
    go_simp
    with_reducible rfl
   rotate_left
   ·
    simp only [PT]
    rfl
   refine join_ (σ:=Value × Value × Value) 3 (bl 18 32767) (fun s_=>[(25,s_.1),(26,s_.2.1),(37,s_.2.2)]) (fun s_ w'=>(w'.cell? ⟨gb144,0,none⟩=some (.int .i64 ((rd_T40 y139 x16_1).f0))∧w'.cell? ⟨gb144,1,none⟩=some (.int .i64 ((rd_T40 y139 x16_1).f1))∧w'.cell? ⟨gb144,2,none⟩=some (.int .i64 ((rd_T40 y139 x16_1).f2))∧w'.cell? ⟨gb144,3,none⟩=some (.int .i64 ((rd_T40 y139 x16_1).f3))∧w'.cell? ⟨gb144,4,none⟩=some (.int .i64 ((rd_T40 y139 x16_1).f4))∧w'.cell? ⟨gb144,5,none⟩=some (.int .i64 ((rd_T40 y139 x16_1).f5))∧w'.cell? ⟨gb138,0,none⟩=some (.int .i64 a0_0)∧w'.cell? ⟨gb138,1,none⟩=some (.int .i64 a0_1)∧w'.cell? ⟨gb138,2,none⟩=some (.int .i64 a0_2)∧w'.cell? ⟨gb138,3,none⟩=some (.int .i64 a0_3)∧w'.cell? ⟨gb138,4,none⟩=some (.int .i64 a0_4)∧w'.cell? ⟨gb138,5,none⟩=some (.slice A0_5 l0_5.length c0_5)∧w'.cell? ⟨gb138,6,none⟩=some (.slice (some ad151) l0_6.length c0_6)∧w'.cell? ⟨gb138,7,none⟩=some (.int .i64 a0_7)∧w'.cell? (ad151.add ((ji13)).toNat)=some (.int .i64 (rd l0_6 (ji13))))∧(Kd.R k40 40 w' w.heap.size (fun k_=>some k_≠(s_.2.1:Value).ownBlock∧k_≠gb144) s_.1 y145)∧(Kd.R k40 40 w' w.heap.size (fun k_=>some k_≠(s_.1:Value).ownBlock∧k_≠gb144) s_.2.1 y148)∧(Kd.R (Kd.int .i64) 3 w' w.heap.size (fun k_=>some k_≠(.slice Ao21 x3_1.length co21:Value).ownBlock) s_.2.2 y152)∧(Kd.R (Kd.int .i64) 3 w' w.heap.size (fun k_=>some k_≠(s_.2.2:Value).ownBlock) (.slice Ao21 x3_1.length co21) x3_1)∧(w'.heap[gb138]?=some (.cells #[.int .i64 a0_0,.int .i64 a0_1,.int .i64 a0_2,.int .i64 a0_3,.int .i64 a0_4,.slice A0_5 l0_5.length c0_5,.slice (some ad151) l0_6.length c0_6,.int .i64 a0_7] 50 (0,0)))∧(w'.heap[gb144]?=some (.cells #[.int .i64 ((rd_T40 y139 x16_1).f0),.int .i64 ((rd_T40 y139 x16_1).f1),.int .i64 ((rd_T40 y139 x16_1).f2),.int .i64 ((rd_T40 y139 x16_1).f3),.int .i64 ((rd_T40 y139 x16_1).f4),.int .i64 ((rd_T40 y139 x16_1).f5)] 40 (0,0)))∧(Below w.heap.size w w')) ?_ ?_
   rotate_left
   ·
    intro hCont
    refine two_ (i:=2) (j:=14) (Ni:=some 25) (Nj:=some 37) (bl 18 16375) (bl 18 32755) rfl rfl rfl rfl (two_of HT_.out TK) (by decide) (by decide) (fun K hK=>?_) (fun K hK=>?_)
    ·
     skip
     refine Kd.R_lit_step k40 _ 40 ?hg (N:=25) ?hd (xs:=([(⟨(rd_T40 y139 x16_1).f0,(rd_T40 y139 x16_1).f1,(rd_T40 y139 x16_1).f2,(rd_T40 y139 x16_1).f3,(rd_T40 y139 x16_1).f4,(rd_T40 y139 x16_1).f5⟩:S40)]:List (S40))) (inner:=[.int .i64 ((rd_T40 y139 x16_1).f0),.int .i64 ((rd_T40 y139 x16_1).f1),.int .i64 ((rd_T40 y139 x16_1).f2),.int .i64 ((rd_T40 y139 x16_1).f3),.int .i64 ((rd_T40 y139 x16_1).f4),.int .i64 ((rd_T40 y139 x16_1).f5)]) (ok:=fun _=>True) (okp:=fun _=>True) ?hr ?hp (fun _ hk=>hk) trivial (Below.refl _ _) (Nat.le_refl _) (by simp) ?_;(case hd=>rfl);(case hg=>rfl);(case hr=>exact TG);(case hp=>exact (Reps.c6 (show Kd.M k40 _ _ _ (⟨(rd_T40 y139 x16_1).f0,(rd_T40 y139 x16_1).f1,(rd_T40 y139 x16_1).f2,(rd_T40 y139 x16_1).f3,(rd_T40 y139 x16_1).f4,(rd_T40 y139 x16_1).f5⟩:S40) [.int .i64 ((rd_T40 y139 x16_1).f0),.int .i64 ((rd_T40 y139 x16_1).f1),.int .i64 ((rd_T40 y139 x16_1).f2),.int .i64 ((rd_T40 y139 x16_1).f3),.int .i64 ((rd_T40 y139 x16_1).f4),.int .i64 ((rd_T40 y139 x16_1).f5)] from (k40_mkM _ _ _ (⟨(rd_T40 y139 x16_1).f0,(rd_T40 y139 x16_1).f1,(rd_T40 y139 x16_1).f2,(rd_T40 y139 x16_1).f3,(rd_T40 y139 x16_1).f4,(rd_T40 y139 x16_1).f5⟩:S40))) (Reps.none _ _)))
     intro v146 w24 ho25 hb hg_ hnew_
     clear hg_ hnew_
     (first|rw [← Ny145.out] at ho25|(simp only [Int.reduceToNat] at ho25;rw [← Ny145.out] at ho25))
     replace HO_3:=Am (Kd.R_below (RU HO_3.out) hb)
     have HO147:=Am (Kd.R_lower (Kd.R_newB (Kd.R_new' ho25 (Kd.R_lt (RU HO_2.out))) (g:=gb144) (o:= .cells #[.int .i64 ((rd_T40 y139 x16_1).f0),.int .i64 ((rd_T40 y139 x16_1).f1),.int .i64 ((rd_T40 y139 x16_1).f2),.int .i64 ((rd_T40 y139 x16_1).f3),.int .i64 ((rd_T40 y139 x16_1).f4),.int .i64 ((rd_T40 y139 x16_1).f5)] 40 (0,0)) (blkU BK144.out)) (below_size TB))
     replace HO_2:=Am (Kd.R_elder' (RU HO_2.out) (Kd.R_base ho25) hb)
     replace BK138:=Am (blk_below (blkU BK138.out) hb)
     replace BK144:=Am (blk_below (blkU BK144.out) hb)
     replace HB:=Am (below_step TB hb)
     clear hb ho25
     obtain ⟨Ao27,co27,eo27⟩:=Kd.R_slice HO147.out
     (first|subst eo27|(injection eo27 with f1_ f2_ f3_;have f4_:=f1_.symm;have f5_:=f3_.symm;clear f1_ f2_ f3_;subst f4_;subst f5_))
     refine hK.out _ _ ⟨(blk_cell BK144.out 0).trans rfl,(blk_cell BK144.out 1).trans rfl,(blk_cell BK144.out 2).trans rfl,(blk_cell BK144.out 3).trans rfl,(blk_cell BK144.out 4).trans rfl,(blk_cell BK144.out 5).trans rfl,(blk_cell BK138.out 0).trans rfl,(blk_cell BK138.out 1).trans rfl,(blk_cell BK138.out 2).trans rfl,(blk_cell BK138.out 3).trans rfl,(blk_cell BK138.out 4).trans rfl,(blk_cell BK138.out 5).trans rfl,(blk_cell BK138.out 6).trans rfl,(blk_cell BK138.out 7).trans rfl,(cellU HB.out hw151_0)⟩ (fun hHeld=>?_)
     clear hK K
     refine norm_ (a':=?_) ?_ ?_
     rotate_left
     ·
      show Act.put _ (some 25) _=_
      simp only [PT]
      rfl
     refine two_ (i:=3) (j:=14) (Ni:=some 26) (Nj:=some 37) (bl 18 16383) (bl 18 32759) rfl rfl rfl rfl (two_of HT_.out TK) (by decide) (by decide) (fun K hK=>?_) (fun K hK=>?_)
     ·
      skip
      refine Kd.R_append_rows_step k40 (w0:=w) w.heap.size (by rfl) (.tmp 23) (.tmp 25) 37 40 (.agg #[(.int .i64 0),(.int .i64 0),(.int .i64 0),(.int .i64 0),(.int .i64 0),(.int .i64 0)]) 48 rfl Try.underlying37 info40 rfl (by decide) (by omega) (.slice Ao20 x2_1.length co20) x2_1 y145 _ _ _ (fun k_=>some k_≠(.slice Ao27 y145.length co27:Value).ownBlock∧k_≠gb144) (fun _=>False) rfl rfl ?aO ?aR (fun _ _ h=>h) (fun _ h=>h.elim) ?aF ?aB ?aS ?aL ?_
      (case aR=>exact CU ((Kd.R_reads' HO147.out).2.2))
      (case aB=>exact TB)
      (case aF=>exact (fun k_ hk=>⟨Kd.fresh' (Kd.R_lt (RU HO147.out)) k_ hk,Kd.freshB (g:=gb144) (o:= .cells #[.int .i64 ((rd_T40 y139 x16_1).f0),.int .i64 ((rd_T40 y139 x16_1).f1),.int .i64 ((rd_T40 y139 x16_1).f2),.int .i64 ((rd_T40 y139 x16_1).f3),.int .i64 ((rd_T40 y139 x16_1).f4),.int .i64 ((rd_T40 y139 x16_1).f5)] 40 (0,0)) (blkU BK144.out) k_ hk⟩))
      (case aO=>exact (RU (Kd.R_mono HO_2.out (fun _ hk=>⟨hk.2,hk.1⟩))))
      (case aS=>exact (below_size TB))
      (case aL=>have:=LMc12.out;omega)
      intro v149 w26 ho hb hg hat
      rw [← Ny148.out] at ho
      replace HO_3:=Am (Kd.R_over' (RU HO_3.out) (Kd.R_typed (RU HO_2.out)) (by decide) hg)
      replace BK138:=Am (blk_grown (g:=gb138) (o:= .cells #[.int .i64 a0_0,.int .i64 a0_1,.int .i64 a0_2,.int .i64 a0_3,.int .i64 a0_4,.slice A0_5 l0_5.length c0_5,.slice (some ad151) l0_6.length c0_6,.int .i64 a0_7] 50 (0,0)) (blkU BK138.out) hg (Kd.R_ne HO_2.out BK138.out (by decide)))
      replace BK144:=Am (blk_grown (g:=gb144) (o:= .cells #[.int .i64 ((rd_T40 y139 x16_1).f0),.int .i64 ((rd_T40 y139 x16_1).f1),.int .i64 ((rd_T40 y139 x16_1).f2),.int .i64 ((rd_T40 y139 x16_1).f3),.int .i64 ((rd_T40 y139 x16_1).f4),.int .i64 ((rd_T40 y139 x16_1).f5)] 40 (0,0)) (blkU BK144.out) hg (Kd.R_away HO_2.out (fun _ hk=>hk.1)))
      replace HO147:=Am (Kd.R_after (ok:=(fun k_=>k_≠gb144)) (RU (Kd.R_mono HO147.out (fun _ hk=>⟨hk.2,hk.1.2⟩))) hg hat)
      have HO150:=Am (ho)
      replace HB:=Am (hb)
      clear HO_2
      clear ho hb hg hat
      refine hK.out _ _ ⟨(blk_cell BK144.out 0).trans rfl,(blk_cell BK144.out 1).trans rfl,(blk_cell BK144.out 2).trans rfl,(blk_cell BK144.out 3).trans rfl,(blk_cell BK144.out 4).trans rfl,(blk_cell BK144.out 5).trans rfl,(blk_cell BK138.out 0).trans rfl,(blk_cell BK138.out 1).trans rfl,(blk_cell BK138.out 2).trans rfl,(blk_cell BK138.out 3).trans rfl,(blk_cell BK138.out 4).trans rfl,(blk_cell BK138.out 5).trans rfl,(blk_cell BK138.out 6).trans rfl,(blk_cell BK138.out 7).trans rfl,(cellU HB.out hw151_0)⟩ (fun hHeld=>?_)
      clear hK K
      refine norm_ (a':=?_) ?_ ?_
      rotate_left
      ·
       show Act.put _ (some 26) _=_
       simp only [PT]
       rfl
      refine one_ (i:=14) (N:=some 37) (bl 18 32767) rfl rfl (one_of HT_.out TK) (by decide) (fun K hK=>?_)
      refine Kd.R_lit_step (Kd.int .i64) _ 3 ?hg (N:=37) ?hd (xs:=([rd l0_6 (ji13)]:List Int)) (inner:=[.int .i64 (rd l0_6 (ji13))]) (ok:=fun _=>True) (okp:=fun _=>True) ?hr ?hp (fun _ hk=>hk) trivial (Below.refl _ _) (Nat.le_refl _) (by simp) ?_;(case hd=>rfl);(case hg=>rfl);(case hr=>exact TG);(case hp=>exact (Reps.one (show Kd.M (Kd.int .i64) _ _ _ (rd l0_6 (ji13)) [.int .i64 (rd l0_6 (ji13))] from rfl) (Reps.none _ _)))
      intro v153 w28 ho29 hb hg_ hnew_
      clear hg_ hnew_
      (first|rw [← Ny152.out] at ho29|(simp only [Int.reduceToNat] at ho29;rw [← Ny152.out] at ho29))
      replace HO147:=Am (Kd.R_below (RU HO147.out) hb)
      replace HO150:=Am (Kd.R_below (RU HO150.out) hb)
      have HO154:=Am (Kd.R_lower (Kd.R_new' ho29 (Kd.R_lt (RU HO_3.out))) (below_size TB))
      replace HO_3:=Am (Kd.R_elder' (RU HO_3.out) (Kd.R_base ho29) hb)
      replace BK138:=Am (blk_below (blkU BK138.out) hb)
      replace BK144:=Am (blk_below (blkU BK144.out) hb)
      replace HB:=Am (below_step TB hb)
      clear hb ho29
      refine hK.out _ _ ⟨(blk_cell BK144.out 0).trans rfl,(blk_cell BK144.out 1).trans rfl,(blk_cell BK144.out 2).trans rfl,(blk_cell BK144.out 3).trans rfl,(blk_cell BK144.out 4).trans rfl,(blk_cell BK144.out 5).trans rfl,(blk_cell BK138.out 0).trans rfl,(blk_cell BK138.out 1).trans rfl,(blk_cell BK138.out 2).trans rfl,(blk_cell BK138.out 3).trans rfl,(blk_cell BK138.out 4).trans rfl,(blk_cell BK138.out 5).trans rfl,(blk_cell BK138.out 6).trans rfl,(blk_cell BK138.out 7).trans rfl,(cellU HB.out hw151_0)⟩ (fun hHeld=>?_)
      clear hK K
      refine norm_ (a':=?_) ?_ ?_
      rotate_left
      ·
       show Act.put _ (some 37) _=_
       simp only [PT]
       rfl
      exact norm_ (by simp only [putAll,Act.put,List.setIfInBounds_toArray,List.set_cons_zero,List.set_cons_succ]) (hCont (.slice Ao27 y145.length co27,v149,v153) _ ⟨hHeld,(RU (Kd.R_mono HO147.out (fun _ hk=>⟨hk.2,hk.1⟩))),(RU HO150.out),(RU (Kd.R_mono HO154.out (fun _ hk=>hk.2))),(RU (Kd.R_mono HO_3.out (fun _ hk=>hk.2))),(blkU BK138.out),(blkU BK144.out),TB⟩)
     ·
      skip
      refine Kd.R_lit_step (Kd.int .i64) _ 3 ?hg (N:=37) ?hd (xs:=([rd l0_6 (ji13)]:List Int)) (inner:=[.int .i64 (rd l0_6 (ji13))]) (ok:=fun _=>True) (okp:=fun _=>True) ?hr ?hp (fun _ hk=>hk) trivial (Below.refl _ _) (Nat.le_refl _) (by simp) ?_;(case hd=>rfl);(case hg=>rfl);(case hr=>exact TG);(case hp=>exact (Reps.one (show Kd.M (Kd.int .i64) _ _ _ (rd l0_6 (ji13)) [.int .i64 (rd l0_6 (ji13))] from rfl) (Reps.none _ _)))
      intro v153 w26 ho27 hb hg_ hnew_
      clear hg_ hnew_
      (first|rw [← Ny152.out] at ho27|(simp only [Int.reduceToNat] at ho27;rw [← Ny152.out] at ho27))
      replace HO_2:=Am (Kd.R_below (RU HO_2.out) hb)
      replace HO147:=Am (Kd.R_below (RU HO147.out) hb)
      have HO154:=Am (Kd.R_lower (Kd.R_new' ho27 (Kd.R_lt (RU HO_3.out))) (below_size TB))
      replace HO_3:=Am (Kd.R_elder' (RU HO_3.out) (Kd.R_base ho27) hb)
      replace BK138:=Am (blk_below (blkU BK138.out) hb)
      replace BK144:=Am (blk_below (blkU BK144.out) hb)
      replace HB:=Am (below_step TB hb)
      clear hb ho27
      obtain ⟨Ao29,co29,eo29⟩:=Kd.R_slice HO147.out
      (first|subst eo29|(injection eo29 with f1_ f2_ f3_;have f4_:=f1_.symm;have f5_:=f3_.symm;clear f1_ f2_ f3_;subst f4_;subst f5_))
      refine hK.out _ _ ⟨(blk_cell BK144.out 0).trans rfl,(blk_cell BK144.out 1).trans rfl,(blk_cell BK144.out 2).trans rfl,(blk_cell BK144.out 3).trans rfl,(blk_cell BK144.out 4).trans rfl,(blk_cell BK144.out 5).trans rfl,(blk_cell BK138.out 0).trans rfl,(blk_cell BK138.out 1).trans rfl,(blk_cell BK138.out 2).trans rfl,(blk_cell BK138.out 3).trans rfl,(blk_cell BK138.out 4).trans rfl,(blk_cell BK138.out 5).trans rfl,(blk_cell BK138.out 6).trans rfl,(blk_cell BK138.out 7).trans rfl,(cellU HB.out hw151_0)⟩ (fun hHeld=>?_)
      clear hK K
      refine norm_ (a':=?_) ?_ ?_
      rotate_left
      ·
       show Act.put _ (some 37) _=_
       simp only [PT]
       rfl
      refine one_ (i:=3) (N:=some 26) (bl 18 32767) rfl rfl (one_of HT_.out TK) (by decide) (fun K hK=>?_)
      refine Kd.R_append_rows_step k40 (w0:=w) w.heap.size (by rfl) (.tmp 23) (.tmp 25) 37 40 (.agg #[(.int .i64 0),(.int .i64 0),(.int .i64 0),(.int .i64 0),(.int .i64 0),(.int .i64 0)]) 48 rfl Try.underlying37 info40 rfl (by decide) (by omega) (.slice Ao20 x2_1.length co20) x2_1 y145 _ _ _ (fun k_=>some k_≠(.slice Ao29 y145.length co29:Value).ownBlock∧k_≠gb144) (fun _=>False) rfl rfl ?aO ?aR (fun _ _ h=>h) (fun _ h=>h.elim) ?aF ?aB ?aS ?aL ?_
      (case aR=>exact CU ((Kd.R_reads' HO147.out).2.2))
      (case aB=>exact TB)
      (case aF=>exact (fun k_ hk=>⟨Kd.fresh' (Kd.R_lt (RU HO147.out)) k_ hk,Kd.freshB (g:=gb144) (o:= .cells #[.int .i64 ((rd_T40 y139 x16_1).f0),.int .i64 ((rd_T40 y139 x16_1).f1),.int .i64 ((rd_T40 y139 x16_1).f2),.int .i64 ((rd_T40 y139 x16_1).f3),.int .i64 ((rd_T40 y139 x16_1).f4),.int .i64 ((rd_T40 y139 x16_1).f5)] 40 (0,0)) (blkU BK144.out) k_ hk⟩))
      (case aO=>exact (RU (Kd.R_mono HO_2.out (fun _ hk=>⟨hk.2,hk.1⟩))))
      (case aS=>exact (below_size TB))
      (case aL=>have:=LMc12.out;omega)
      intro v149 w28 ho hb hg hat
      rw [← Ny148.out] at ho
      replace HO_3:=Am (Kd.R_over' (RU HO_3.out) (Kd.R_typed (RU HO_2.out)) (by decide) hg)
      replace BK138:=Am (blk_grown (g:=gb138) (o:= .cells #[.int .i64 a0_0,.int .i64 a0_1,.int .i64 a0_2,.int .i64 a0_3,.int .i64 a0_4,.slice A0_5 l0_5.length c0_5,.slice (some ad151) l0_6.length c0_6,.int .i64 a0_7] 50 (0,0)) (blkU BK138.out) hg (Kd.R_ne HO_2.out BK138.out (by decide)))
      replace BK144:=Am (blk_grown (g:=gb144) (o:= .cells #[.int .i64 ((rd_T40 y139 x16_1).f0),.int .i64 ((rd_T40 y139 x16_1).f1),.int .i64 ((rd_T40 y139 x16_1).f2),.int .i64 ((rd_T40 y139 x16_1).f3),.int .i64 ((rd_T40 y139 x16_1).f4),.int .i64 ((rd_T40 y139 x16_1).f5)] 40 (0,0)) (blkU BK144.out) hg (Kd.R_away HO_2.out (fun _ hk=>hk.1)))
      replace HO147:=Am (Kd.R_after (ok:=(fun k_=>k_≠gb144)) (RU (Kd.R_mono HO147.out (fun _ hk=>⟨hk.2,hk.1.2⟩))) hg hat)
      replace HO154:=Am (Kd.R_over' (RU HO154.out) (Kd.R_typed (RU HO_2.out)) (by decide) hg)
      have HO150:=Am (ho)
      replace HB:=Am (hb)
      clear HO_2
      clear ho hb hg hat
      refine hK.out _ _ ⟨(blk_cell BK144.out 0).trans rfl,(blk_cell BK144.out 1).trans rfl,(blk_cell BK144.out 2).trans rfl,(blk_cell BK144.out 3).trans rfl,(blk_cell BK144.out 4).trans rfl,(blk_cell BK144.out 5).trans rfl,(blk_cell BK138.out 0).trans rfl,(blk_cell BK138.out 1).trans rfl,(blk_cell BK138.out 2).trans rfl,(blk_cell BK138.out 3).trans rfl,(blk_cell BK138.out 4).trans rfl,(blk_cell BK138.out 5).trans rfl,(blk_cell BK138.out 6).trans rfl,(blk_cell BK138.out 7).trans rfl,(cellU HB.out hw151_0)⟩ (fun hHeld=>?_)
      clear hK K
      refine norm_ (a':=?_) ?_ ?_
      rotate_left
      ·
       show Act.put _ (some 26) _=_
       simp only [PT]
       rfl
      exact norm_ (by simp only [putAll,Act.put,List.setIfInBounds_toArray,List.set_cons_zero,List.set_cons_succ]) (hCont (.slice Ao29 y145.length co29,v149,v153) _ ⟨hHeld,(RU (Kd.R_mono HO147.out (fun _ hk=>⟨hk.2,hk.1⟩))),(RU HO150.out),(RU (Kd.R_mono HO154.out (fun _ hk=>hk.2))),(RU (Kd.R_mono HO_3.out (fun _ hk=>hk.2))),(blkU BK138.out),(blkU BK144.out),TB⟩)
    ·
     skip
     refine Kd.R_lit_step (Kd.int .i64) _ 3 ?hg (N:=37) ?hd (xs:=([rd l0_6 (ji13)]:List Int)) (inner:=[.int .i64 (rd l0_6 (ji13))]) (ok:=fun _=>True) (okp:=fun _=>True) ?hr ?hp (fun _ hk=>hk) trivial (Below.refl _ _) (Nat.le_refl _) (by simp) ?_;(case hd=>rfl);(case hg=>rfl);(case hr=>exact TG);(case hp=>exact (Reps.one (show Kd.M (Kd.int .i64) _ _ _ (rd l0_6 (ji13)) [.int .i64 (rd l0_6 (ji13))] from rfl) (Reps.none _ _)))
     intro v153 w24 ho25 hb hg_ hnew_
     clear hg_ hnew_
     (first|rw [← Ny152.out] at ho25|(simp only [Int.reduceToNat] at ho25;rw [← Ny152.out] at ho25))
     replace HO_2:=Am (Kd.R_below (RU HO_2.out) hb)
     have HO154:=Am (Kd.R_lower (Kd.R_new' ho25 (Kd.R_lt (RU HO_3.out))) (below_size TB))
     replace HO_3:=Am (Kd.R_elder' (RU HO_3.out) (Kd.R_base ho25) hb)
     replace BK138:=Am (blk_below (blkU BK138.out) hb)
     replace BK144:=Am (blk_below (blkU BK144.out) hb)
     replace HB:=Am (below_step TB hb)
     clear hb ho25
     refine hK.out _ _ ⟨(blk_cell BK144.out 0).trans rfl,(blk_cell BK144.out 1).trans rfl,(blk_cell BK144.out 2).trans rfl,(blk_cell BK144.out 3).trans rfl,(blk_cell BK144.out 4).trans rfl,(blk_cell BK144.out 5).trans rfl,(blk_cell BK138.out 0).trans rfl,(blk_cell BK138.out 1).trans rfl,(blk_cell BK138.out 2).trans rfl,(blk_cell BK138.out 3).trans rfl,(blk_cell BK138.out 4).trans rfl,(blk_cell BK138.out 5).trans rfl,(blk_cell BK138.out 6).trans rfl,(blk_cell BK138.out 7).trans rfl,(cellU HB.out hw151_0)⟩ (fun hHeld=>?_)
     clear hK K
     refine norm_ (a':=?_) ?_ ?_
     rotate_left
     ·
      show Act.put _ (some 37) _=_
      simp only [PT]
      rfl
     refine one_ (i:=2) (N:=some 25) (bl 18 32759) rfl rfl (one_of HT_.out TK) (by decide) (fun K hK=>?_)
     refine Kd.R_lit_step k40 _ 40 ?hg (N:=25) ?hd (xs:=([(⟨(rd_T40 y139 x16_1).f0,(rd_T40 y139 x16_1).f1,(rd_T40 y139 x16_1).f2,(rd_T40 y139 x16_1).f3,(rd_T40 y139 x16_1).f4,(rd_T40 y139 x16_1).f5⟩:S40)]:List (S40))) (inner:=[.int .i64 ((rd_T40 y139 x16_1).f0),.int .i64 ((rd_T40 y139 x16_1).f1),.int .i64 ((rd_T40 y139 x16_1).f2),.int .i64 ((rd_T40 y139 x16_1).f3),.int .i64 ((rd_T40 y139 x16_1).f4),.int .i64 ((rd_T40 y139 x16_1).f5)]) (ok:=fun _=>True) (okp:=fun _=>True) ?hr ?hp (fun _ hk=>hk) trivial (Below.refl _ _) (Nat.le_refl _) (by simp) ?_;(case hd=>rfl);(case hg=>rfl);(case hr=>exact TG);(case hp=>exact (Reps.c6 (show Kd.M k40 _ _ _ (⟨(rd_T40 y139 x16_1).f0,(rd_T40 y139 x16_1).f1,(rd_T40 y139 x16_1).f2,(rd_T40 y139 x16_1).f3,(rd_T40 y139 x16_1).f4,(rd_T40 y139 x16_1).f5⟩:S40) [.int .i64 ((rd_T40 y139 x16_1).f0),.int .i64 ((rd_T40 y139 x16_1).f1),.int .i64 ((rd_T40 y139 x16_1).f2),.int .i64 ((rd_T40 y139 x16_1).f3),.int .i64 ((rd_T40 y139 x16_1).f4),.int .i64 ((rd_T40 y139 x16_1).f5)] from (k40_mkM _ _ _ (⟨(rd_T40 y139 x16_1).f0,(rd_T40 y139 x16_1).f1,(rd_T40 y139 x16_1).f2,(rd_T40 y139 x16_1).f3,(rd_T40 y139 x16_1).f4,(rd_T40 y139 x16_1).f5⟩:S40))) (Reps.none _ _)))
     intro v146 w26 ho27 hb hg_ hnew_
     clear hg_ hnew_
     (first|rw [← Ny145.out] at ho27|(simp only [Int.reduceToNat] at ho27;rw [← Ny145.out] at ho27))
     replace HO_3:=Am (Kd.R_below (RU HO_3.out) hb)
     replace HO154:=Am (Kd.R_below (RU HO154.out) hb)
     have HO147:=Am (Kd.R_lower (Kd.R_newB (Kd.R_new' ho27 (Kd.R_lt (RU HO_2.out))) (g:=gb144) (o:= .cells #[.int .i64 ((rd_T40 y139 x16_1).f0),.int .i64 ((rd_T40 y139 x16_1).f1),.int .i64 ((rd_T40 y139 x16_1).f2),.int .i64 ((rd_T40 y139 x16_1).f3),.int .i64 ((rd_T40 y139 x16_1).f4),.int .i64 ((rd_T40 y139 x16_1).f5)] 40 (0,0)) (blkU BK144.out)) (below_size TB))
     replace HO_2:=Am (Kd.R_elder' (RU HO_2.out) (Kd.R_base ho27) hb)
     replace BK138:=Am (blk_below (blkU BK138.out) hb)
     replace BK144:=Am (blk_below (blkU BK144.out) hb)
     replace HB:=Am (below_step TB hb)
     clear hb ho27
     obtain ⟨Ao29,co29,eo29⟩:=Kd.R_slice HO147.out
     (first|subst eo29|(injection eo29 with f1_ f2_ f3_;have f4_:=f1_.symm;have f5_:=f3_.symm;clear f1_ f2_ f3_;subst f4_;subst f5_))
     refine hK.out _ _ ⟨(blk_cell BK144.out 0).trans rfl,(blk_cell BK144.out 1).trans rfl,(blk_cell BK144.out 2).trans rfl,(blk_cell BK144.out 3).trans rfl,(blk_cell BK144.out 4).trans rfl,(blk_cell BK144.out 5).trans rfl,(blk_cell BK138.out 0).trans rfl,(blk_cell BK138.out 1).trans rfl,(blk_cell BK138.out 2).trans rfl,(blk_cell BK138.out 3).trans rfl,(blk_cell BK138.out 4).trans rfl,(blk_cell BK138.out 5).trans rfl,(blk_cell BK138.out 6).trans rfl,(blk_cell BK138.out 7).trans rfl,(cellU HB.out hw151_0)⟩ (fun hHeld=>?_)
     clear hK K
     refine norm_ (a':=?_) ?_ ?_
     rotate_left
     ·
      show Act.put _ (some 25) _=_
      simp only [PT]
      rfl
     refine one_ (i:=3) (N:=some 26) (bl 18 32767) rfl rfl (one_of HT_.out TK) (by decide) (fun K hK=>?_)
     refine Kd.R_append_rows_step k40 (w0:=w) w.heap.size (by rfl) (.tmp 23) (.tmp 25) 37 40 (.agg #[(.int .i64 0),(.int .i64 0),(.int .i64 0),(.int .i64 0),(.int .i64 0),(.int .i64 0)]) 48 rfl Try.underlying37 info40 rfl (by decide) (by omega) (.slice Ao20 x2_1.length co20) x2_1 y145 _ _ _ (fun k_=>some k_≠(.slice Ao29 y145.length co29:Value).ownBlock∧k_≠gb144) (fun _=>False) rfl rfl ?aO ?aR (fun _ _ h=>h) (fun _ h=>h.elim) ?aF ?aB ?aS ?aL ?_
     (case aR=>exact CU ((Kd.R_reads' HO147.out).2.2))
     (case aB=>exact TB)
     (case aF=>exact (fun k_ hk=>⟨Kd.fresh' (Kd.R_lt (RU HO147.out)) k_ hk,Kd.freshB (g:=gb144) (o:= .cells #[.int .i64 ((rd_T40 y139 x16_1).f0),.int .i64 ((rd_T40 y139 x16_1).f1),.int .i64 ((rd_T40 y139 x16_1).f2),.int .i64 ((rd_T40 y139 x16_1).f3),.int .i64 ((rd_T40 y139 x16_1).f4),.int .i64 ((rd_T40 y139 x16_1).f5)] 40 (0,0)) (blkU BK144.out) k_ hk⟩))
     (case aO=>exact (RU (Kd.R_mono HO_2.out (fun _ hk=>⟨hk.2,hk.1⟩))))
     (case aS=>exact (below_size TB))
     (case aL=>have:=LMc12.out;omega)
     intro v149 w28 ho hb hg hat
     rw [← Ny148.out] at ho
     replace HO_3:=Am (Kd.R_over' (RU HO_3.out) (Kd.R_typed (RU HO_2.out)) (by decide) hg)
     replace BK138:=Am (blk_grown (g:=gb138) (o:= .cells #[.int .i64 a0_0,.int .i64 a0_1,.int .i64 a0_2,.int .i64 a0_3,.int .i64 a0_4,.slice A0_5 l0_5.length c0_5,.slice (some ad151) l0_6.length c0_6,.int .i64 a0_7] 50 (0,0)) (blkU BK138.out) hg (Kd.R_ne HO_2.out BK138.out (by decide)))
     replace BK144:=Am (blk_grown (g:=gb144) (o:= .cells #[.int .i64 ((rd_T40 y139 x16_1).f0),.int .i64 ((rd_T40 y139 x16_1).f1),.int .i64 ((rd_T40 y139 x16_1).f2),.int .i64 ((rd_T40 y139 x16_1).f3),.int .i64 ((rd_T40 y139 x16_1).f4),.int .i64 ((rd_T40 y139 x16_1).f5)] 40 (0,0)) (blkU BK144.out) hg (Kd.R_away HO_2.out (fun _ hk=>hk.1)))
     replace HO154:=Am (Kd.R_over' (RU HO154.out) (Kd.R_typed (RU HO_2.out)) (by decide) hg)
     replace HO147:=Am (Kd.R_after (ok:=(fun k_=>k_≠gb144)) (RU (Kd.R_mono HO147.out (fun _ hk=>⟨hk.2,hk.1.2⟩))) hg hat)
     have HO150:=Am (ho)
     replace HB:=Am (hb)
     clear HO_2
     clear ho hb hg hat
     refine hK.out _ _ ⟨(blk_cell BK144.out 0).trans rfl,(blk_cell BK144.out 1).trans rfl,(blk_cell BK144.out 2).trans rfl,(blk_cell BK144.out 3).trans rfl,(blk_cell BK144.out 4).trans rfl,(blk_cell BK144.out 5).trans rfl,(blk_cell BK138.out 0).trans rfl,(blk_cell BK138.out 1).trans rfl,(blk_cell BK138.out 2).trans rfl,(blk_cell BK138.out 3).trans rfl,(blk_cell BK138.out 4).trans rfl,(blk_cell BK138.out 5).trans rfl,(blk_cell BK138.out 6).trans rfl,(blk_cell BK138.out 7).trans rfl,(cellU HB.out hw151_0)⟩ (fun hHeld=>?_)
     clear hK K
     refine norm_ (a':=?_) ?_ ?_
     rotate_left
     ·
      show Act.put _ (some 26) _=_
      simp only [PT]
      rfl
     exact norm_ (by simp only [putAll,Act.put,List.setIfInBounds_toArray,List.set_cons_zero,List.set_cons_succ]) (hCont (.slice Ao29 y145.length co29,v149,v153) _ ⟨hHeld,(RU (Kd.R_mono HO147.out (fun _ hk=>⟨hk.2,hk.1⟩))),(RU HO150.out),(RU (Kd.R_mono HO154.out (fun _ hk=>hk.2))),(RU (Kd.R_mono HO_3.out (fun _ hk=>hk.2))),(blkU BK138.out),(blkU BK144.out),TB⟩)
   rintro ⟨v146,v149,v153⟩ w30 ⟨hS_,h0_,h1_,h2_,h3_,h4_,h5_,h6_⟩
   have HO147:Aside0 (Kd.R k40 40 w30 w.heap.size (fun k_=>some k_≠(v149:Value).ownBlock∧k_≠gb144) v146 y145):=⟨h0_⟩
   have HO150:Aside0 (Kd.R k40 40 w30 w.heap.size (fun k_=>some k_≠(v146:Value).ownBlock∧k_≠gb144) v149 y148):=⟨h1_⟩
   have HO154:Aside0 (Kd.R (Kd.int .i64) 3 w30 w.heap.size (fun k_=>some k_≠(.slice Ao21 x3_1.length co21:Value).ownBlock) v153 y152):=⟨h2_⟩
   replace HO_3:Aside0 (Kd.R (Kd.int .i64) 3 w30 w.heap.size (fun k_=>some k_≠(v153:Value).ownBlock) (.slice Ao21 x3_1.length co21) x3_1):=⟨h3_⟩
   replace BK138:Aside0 (w30.heap[gb138]?=some (.cells #[.int .i64 a0_0,.int .i64 a0_1,.int .i64 a0_2,.int .i64 a0_3,.int .i64 a0_4,.slice A0_5 l0_5.length c0_5,.slice (some ad151) l0_6.length c0_6,.int .i64 a0_7] 50 (0,0))):=⟨h4_⟩
   replace BK144:Aside0 (w30.heap[gb144]?=some (.cells #[.int .i64 ((rd_T40 y139 x16_1).f0),.int .i64 ((rd_T40 y139 x16_1).f1),.int .i64 ((rd_T40 y139 x16_1).f2),.int .i64 ((rd_T40 y139 x16_1).f3),.int .i64 ((rd_T40 y139 x16_1).f4),.int .i64 ((rd_T40 y139 x16_1).f5)] 40 (0,0))):=⟨h5_⟩
   replace HB:Aside0 (Below w.heap.size w w30):=⟨h6_⟩
   clear HO_2 h0_ h1_ h2_ h3_ h4_ h5_ h6_
   have hHeld:w30.cell? ⟨gb144,0,none⟩=some (.int .i64 ((rd_T40 y139 x16_1).f0))∧w30.cell? ⟨gb144,1,none⟩=some (.int .i64 ((rd_T40 y139 x16_1).f1))∧w30.cell? ⟨gb144,2,none⟩=some (.int .i64 ((rd_T40 y139 x16_1).f2))∧w30.cell? ⟨gb144,3,none⟩=some (.int .i64 ((rd_T40 y139 x16_1).f3))∧w30.cell? ⟨gb144,4,none⟩=some (.int .i64 ((rd_T40 y139 x16_1).f4))∧w30.cell? ⟨gb144,5,none⟩=some (.int .i64 ((rd_T40 y139 x16_1).f5))∧w30.cell? ⟨gb138,0,none⟩=some (.int .i64 a0_0)∧w30.cell? ⟨gb138,1,none⟩=some (.int .i64 a0_1)∧w30.cell? ⟨gb138,2,none⟩=some (.int .i64 a0_2)∧w30.cell? ⟨gb138,3,none⟩=some (.int .i64 a0_3)∧w30.cell? ⟨gb138,4,none⟩=some (.int .i64 a0_4)∧w30.cell? ⟨gb138,5,none⟩=some (.slice A0_5 l0_5.length c0_5)∧w30.cell? ⟨gb138,6,none⟩=some (.slice (some ad151) l0_6.length c0_6)∧w30.cell? ⟨gb138,7,none⟩=some (.int .i64 a0_7)∧w30.cell? (ad151.add ((ji13)).toNat)=some (.int .i64 (rd l0_6 (ji13))):=hS_
   obtain ⟨Ao32,co32,eo32⟩:=Kd.R_slice HO154.out
   (first|subst eo32|(injection eo32 with f1_ f2_ f3_;have f4_:=f1_.symm;have f5_:=f3_.symm;clear f1_ f2_ f3_;subst f4_;subst f5_))
   refine norm_ (a':=?_) ?_ ?_
   rotate_left
   ·
    simp only [putAll,Act.put,List.setIfInBounds_toArray,List.set_cons_zero,List.set_cons_succ]
    rfl
   refine one_ (i:=15) (N:=some 38) (bl 18 65535) rfl rfl (one_of HT_.out TK) (by decide) (fun K hK=>?_)
   refine Kd.R_append_rows_step (Kd.int .i64) (w0:=w) w.heap.size (by rfl) (.tmp 27) (.tmp 37) 23 3 (.int .i64 0) 8 rfl Try.underlying23 info3 rfl (by decide) (by omega) (.slice Ao21 x3_1.length co21) x3_1 y152 _ _ _ (fun k_=>some k_≠(.slice Ao32 y152.length co32:Value).ownBlock) (fun _=>False) rfl rfl ?aO ?aR (fun _ _ h=>h) (fun _ h=>h.elim) ?aF ?aB ?aS ?aL ?_
   (case aR=>exact CU ((Kd.R_reads' HO154.out).2.2))
   (case aB=>exact TB)
   (case aF=>exact (fun k_ hk=>Kd.fresh' (Kd.R_lt (RU HO154.out)) k_ hk))
   (case aO=>exact (RU HO_3.out))
   (case aS=>exact (below_size TB))
   (case aL=>have:=LMc16.out;omega)
   intro v156 w31 ho hb hg hat
   rw [← Ny155.out] at ho
   replace BK138:=Am (blk_grown (g:=gb138) (o:= .cells #[.int .i64 a0_0,.int .i64 a0_1,.int .i64 a0_2,.int .i64 a0_3,.int .i64 a0_4,.slice A0_5 l0_5.length c0_5,.slice (some ad151) l0_6.length c0_6,.int .i64 a0_7] 50 (0,0)) (blkU BK138.out) hg (Kd.R_ne HO_3.out BK138.out (by decide)))
   replace BK144:=Am (blk_grown (g:=gb144) (o:= .cells #[.int .i64 ((rd_T40 y139 x16_1).f0),.int .i64 ((rd_T40 y139 x16_1).f1),.int .i64 ((rd_T40 y139 x16_1).f2),.int .i64 ((rd_T40 y139 x16_1).f3),.int .i64 ((rd_T40 y139 x16_1).f4),.int .i64 ((rd_T40 y139 x16_1).f5)] 40 (0,0)) (blkU BK144.out) hg (Kd.R_ne HO_3.out BK144.out (by decide)))
   replace HO147:=Am (Kd.R_over' (RU HO147.out) (Kd.R_typed (RU HO_3.out)) (by decide) hg)
   replace HO150:=Am (Kd.R_over' (RU HO150.out) (Kd.R_typed (RU HO_3.out)) (by decide) hg)
   replace HO154:=Am (Kd.R_after (ok:=(fun _=>True)) (RU (Kd.R_mono HO154.out (fun _ hk=>⟨trivial,hk⟩))) hg hat)
   have HO157:=Am (ho)
   replace HB:=Am (hb)
   clear HO_3
   clear ho hb hg hat
   refine hK.out _ _ ⟨(blk_cell BK144.out 0).trans rfl,(blk_cell BK144.out 1).trans rfl,(blk_cell BK144.out 2).trans rfl,(blk_cell BK144.out 3).trans rfl,(blk_cell BK144.out 4).trans rfl,(blk_cell BK144.out 5).trans rfl,(blk_cell BK138.out 0).trans rfl,(blk_cell BK138.out 1).trans rfl,(blk_cell BK138.out 2).trans rfl,(blk_cell BK138.out 3).trans rfl,(blk_cell BK138.out 4).trans rfl,(blk_cell BK138.out 5).trans rfl,(blk_cell BK138.out 6).trans rfl,(blk_cell BK138.out 7).trans rfl,(cellU HB.out hw151_0)⟩ (fun hHeld=>?_)
   clear hK K
   refine norm_ (a':=?_) ?_ ?_
   rotate_left
   ·
    show Act.put _ (some 38) _=_
    simp only [PT]
    rfl
   refine pureS (i:=16) (N:=some 2) (bl 18 131071) rfl rfl (any_of HT_.out TK) ?_
   refine pureS (i:=17) (N:=some 3) (bl 18 262143) rfl rfl (any_of HT_.out TK) ?_
   refine done_ (done_of HT_.out TK) ?_
   try go_wp2
   go_roundg k1
   case measure=>have:=HK1.out;omega
   case rel=>exact ⟨(y148),(y155),(wrap64 (x16_1+1)),TS,H',⟨by have:=HK1.out;omega⟩,⟨RU (Kd.R_mono HO150.out (fun _ hk=>trivial))⟩,⟨RU (Kd.R_mono HO157.out (fun _ hk=>trivial))⟩,⟨blkU BK138.out⟩,⟨TB⟩⟩
def slices_Reverse_int_int.l0:Nat→List Int→Int→Int→Option (List Int)
 | 0,_,_,_=>none
 | k+1,x0,x2,x3=>if x2 < x3 then (if 0≤x3 then (if x3 < (x0.length:Int) then (if 0≤x2 then (if x2 < (x0.length:Int) then (slices_Reverse_int_int.l0 k ((x0.set (x2:Int).toNat (rd x0 x3)).set (x3:Int).toNat (rd x0 x2)) (wrap64 (x2+1)) (wrap64 (x3 - 1))) else (none)) else (none)) else (none)) else (none)) else (some x0)
def slices_Reverse_int_int.f (k:Nat) (l0:List Int):Option (List Int):=slices_Reverse_int_int.l0 k l0 0 (wrap64 ((l0.length:Int) - 1))
theorem slices_Reverse_int_int.mono_l: ∀ k,(∀ y0 y1 y2,LeO (slices_Reverse_int_int.l0 k y0 y1 y2) (slices_Reverse_int_int.l0 (k+1) y0 y1 y2))
 | 0=>fun _ _ _ r h=>by simp [slices_Reverse_int_int.l0] at h
 | k+1=>by
  have ih0:=slices_Reverse_int_int.mono_l k
  ·
   intros
   unfold slices_Reverse_int_int.l0
   exact TL
theorem slices_Reverse_int_int.mono: ∀ a0 k,LeO (slices_Reverse_int_int.f k a0) (slices_Reverse_int_int.f (k+1) a0):=by
 intro a0 k
 have ih0:=slices_Reverse_int_int.mono_l k
 unfold slices_Reverse_int_int.f
 repeat' first
   | (with_reducible exact ih0 _ _ _)
   | (with_reducible exact LeO.refl _)
   | (with_reducible exact LeO.none _)
   | (with_reducible refine LeO.ite ?_ ?_)
   | (with_reducible refine LeO.bind ?_ (fun _=>?_))
def slices_Reverse_int_int.T3:Bool × List (List Nat × List Nat):=(true,[([],[]),([],[]),([],[]),([],[]),([],[]),([],[]),([4,5],[4,5]),([6],[6]),([],[]),([],[]),([8,9],[8,9]),([10],[10]),([0,1,0,1,4,5,6,7,11],[0,1]),([12,7,0,1,4,5,6,7,11],[7,12]),([2,3,0,1,2,3,4,5,6,7,8,9,10,11,12,13],[2,3]),([14,11,13,0,1,2,3,4,5,6,7,8,9,10,11,12,13],[11,14])])
def slices_Reverse_int_int.B3:List Nat:=[0,0,0,0,0,0,48,112,0,0,768,1792,4083,8179,16383,32767]
theorem slices_Reverse_int_int.tab3:rtab .any (opsOf Try.f79 3)=slices_Reverse_int_int.T3:=by kernel_rfl
theorem slices_Reverse_int_int.bits3:waitsOk slices_Reverse_int_int.T3.2 slices_Reverse_int_int.B3=true:=by kernel_rfl
set_option maxHeartbeats 8000000 in
theorem slices_Reverse_int_int.calls (k:Nat) (P0_:Nat→Prop) (u9000_:Value) (l0:List Int) (r:List Int) (w0 w:World) (hB:Below w0.heap.size w0 w) (ho0:Kd.R (Kd.int .i64) 3 w w0.heap.size P0_ u9000_ l0) (h:slices_Reverse_int_int.f k l0=some r) :
  Calls Try.prog 79 #[u9000_] w fun e w'=>e= .returned (.tuple #[])∧Kd.R (Kd.int .i64) 3 w' w0.heap.size (fun k_=>(P0_ k_∨w.heap.size≤k_)) u9000_ r∧Below w0.heap.size w0 w'∧Kept w w' (fun k_=>P0_ k_):=by
 have HO0:=Am (show Kd.R (Kd.int .i64) 3 w w0.heap.size (fun k_=>(P0_ k_∨w.heap.size≤k_)) u9000_ l0 from Kd.R_mono ho0 (fun k_ hk=>(.inl hk)))
 have HK:=Am (Kept.refl w (fun k_=>P0_ k_))
 have HW0:=Am hB.size
 have HB:=Am hB
 clear hB
 have H:(slices_Reverse_int_int.l0 k l0 0 (wrap64 ((l0.length:Int) - 1)))=some r:=h
 clear h
 have H':=Am H
 clear H
 obtain ⟨Ao2,co2,eo2⟩:=Kd.R_slice HO0.out
 subst eo2
 go_enter Try.func79,Try.ntmps79
 go_wp2
 go_loopg [2,3] k (fun kq v2 v3 w'=> ∃ (x0_1:List Int) (x2_1:Int) (x3_1:Int),v2= .int .i64 x2_1∧v3= .int .i64 x3_1∧Aside0 (slices_Reverse_int_int.l0 kq x0_1 x2_1 x3_1=some r)∧Aside0 (kq≤k)∧Aside0 (Kd.R (Kd.int .i64) 3 w' w0.heap.size (fun k_=>(P0_ k_∨w.heap.size≤k_)) (.slice Ao2 l0.length co2) x0_1)∧Aside0 (Kept w w' (fun k_=>P0_ k_))∧Aside0 (Below w0.heap.size w0 w'))
 case atStart=>exact ⟨(l0),(0),(wrap64 ((l0.length:Int) - 1)),TS,TS,H',⟨Nat.le_refl _⟩,⟨RU HO0.out⟩,⟨by repeat (first|(with_reducible first|exact HK.out|apply Kept.alloc|apply Kept.drewN|apply Kept.drew)|exact HK.out)⟩,⟨TB⟩⟩
 case round =>
  clear H'
  obtain ⟨x0_1,x2_1,x3_1,rfl,rfl,HA,HK1,HO_0,HK,HB⟩:=hrel
  have hl0_1:=(Kd.R_reads' HO_0.out).1
  rw [hl0_1] at HO_0
  (try simp only [hl0_1])
  cases gk with
  | zero=>exact absurd HA.out (by simp [slices_Reverse_int_int.l0])
  | succ k1 =>
   have H:=HA.out
   clear HA
   simp only [slices_Reverse_int_int.l0] at H
   by_cases c3:x2_1 < x3_1
   rotate_left
   ·
    rw [if_neg c3] at H
    have c3b0:decide (x2_1 < x3_1)=false:=decide_eq_false c3
    clear c3
    obtain rfl:=Option.some.inj H
    go_wp2
    first|go_end0|((try simp only [Exit.inBlock,Exit.then]);refine bodyPost_ret (results_none rfl _ _ _) rfl ?_)
    exact ⟨TE,(by first|exact (RU HO_0.out)|(simp only [hl0_1];exact (RU HO_0.out))),TB,by repeat (first|(with_reducible first|exact HK.out|apply Kept.alloc|apply Kept.drewN|apply Kept.drew)|exact HK.out)⟩
   rw [if_pos c3] at H
   have c3b0:decide (x2_1 < x3_1)=true:=decide_eq_true c3
   clear c3
   obtain ⟨c4,H⟩:=ifS H
   have c4b0:decide (0≤x3_1)=true:=decide_eq_true c4
   clear c4
   obtain ⟨c5,H⟩:=ifS H
   have c5b0:decide (x3_1 < (x0_1.length:Int))=true:=decide_eq_true c5
   clear c5
   obtain ⟨c6,H⟩:=ifS H
   have c6b0:decide (0≤x2_1)=true:=decide_eq_true c6
   clear c6
   obtain ⟨c7,H⟩:=ifS H
   have c7b0:decide (x2_1 < (x0_1.length:Int))=true:=decide_eq_true c7
   clear c7
   obtain ⟨y160,hy160⟩: ∃ y_:List Int,y_=(x0_1.set (x2_1:Int).toNat (rd x0_1 x3_1)):=⟨_,rfl⟩
   replace H:(slices_Reverse_int_int.l0 k1 (y160.set (x3_1:Int).toNat (rd x0_1 x2_1)) (wrap64 (x2_1+1)) (wrap64 (x3_1 - 1)))=some r:=by first|(rw [hy160];with_reducible exact H)|(have H2_:=(Option.bind_some _ _).symm.trans H;rw [hy160];with_reducible exact H2_)|(have H2_:=(Option.bind_some _ _).symm.trans H;with_reducible exact H2_)|with_reducible exact H|(rw [hy160];exact H)|exact H
   have Ny160:=Am hy160
   clear hy160
   obtain ⟨y161,hy161⟩: ∃ y_:List Int,y_=(y160.set (x3_1:Int).toNat (rd x0_1 x2_1)):=⟨_,rfl⟩
   replace H:(slices_Reverse_int_int.l0 k1 y161 (wrap64 (x2_1+1)) (wrap64 (x3_1 - 1)))=some r:=by first|(rw [hy161];with_reducible exact H)|(have H2_:=(Option.bind_some _ _).symm.trans H;rw [hy161];with_reducible exact H2_)|(have H2_:=(Option.bind_some _ _).symm.trans H;with_reducible exact H2_)|with_reducible exact H|(rw [hy161];exact H)|exact H
   have Ny161:=Am hy161
   clear hy161
   have H':=Am H
   clear H
   try go_wp2
   replace HO_0:=Am (Kd.R_drew HO_0.out)
   replace HK:=Am (Kept.drew HK.out)
   replace HB:=Am (below_drew1 HB.out)
   have p158:0≤(x3_1:Int):=tD
   have q158:x3_1 < (x0_1.length:Int):=tD
   obtain ⟨ad158,e158,hx158_0⟩:=Kd.at_int (Kd.R_reads' HO_0.out).2.2 x3_1 p158 q158
   cases e158
   replace p158:=eq_true p158
   replace q158:=eq_true q158
   have p159:0≤(x2_1:Int):=tD
   have q159:x2_1 < (x0_1.length:Int):=tD
   obtain ⟨ad159,e159,hx159_0⟩:=Kd.at_int (Kd.R_reads' HO_0.out).2.2 x2_1 p159 q159
   obtain rfl:ad158=ad159:=(by injection e159)
   replace p159:=eq_true p159
   replace q159:=eq_true q159
   have p8:0≤(x2_1:Int):=tD
   have q8:(x2_1:Int) < ((x0_1.length:Int):Int):=tD
   obtain ⟨go8,co8,eo8,gb8,gl8,cl8,HG8⟩:=Kd.R_form HO_0.out (by omega)
   (first|cases eo8|(injection eo8 with ea_ en_ ec_;(first|subst ea_|(injection ea_ with ea_;subst ea_));subst ec_;clear en_))
   have GB8:=Am gb8
   have GG8:=Am HG8
   clear gb8 gl8 HG8
   have HMgo8:=Am (show (P0_ go8∨w.heap.size≤go8) from (HO_0.out.1 _ rfl))
   (first|simp only [add_plain] at hx158_0|skip)
   (first|simp only [add_plain] at hx159_0|skip)
   obtain ⟨hx8_0,hf8_0⟩:=Kd.R_celln 0 HO_0.out (x2_1:Int) p8 q8
   replace p8:=eq_true p8
   replace q8:=eq_true q8
   have HP11:=Kd.R_putn HO_0.out (x2_1:Int) (rd x0_1 x3_1)
   rw [← Ny160.out] at HP11
   have HQ11:=Am HP11
   clear HP11
   have p9:0≤(x3_1:Int):=tD
   have q9:(x3_1:Int) < ((x0_1.length:Int):Int):=tD
   obtain ⟨hx9_0,hf9_0⟩:=Kd.R_celln 0 HQ11.out (x3_1:Int) p9 q9
   replace p9:=eq_true p9
   replace q9:=eq_true q9
   have HP12:=Kd.R_putn HQ11.out (x3_1:Int) (rd x0_1 x2_1)
   rw [← Ny161.out] at HP12
   have HQ12:=Am HP12
   clear HP12
   refine start_ (n:=16) (S:=fun w'=>w'.cell? ⟨go8,(x3_1).toNat,none⟩=some (.int .i64 (rd x0_1 x3_1))∧w'.cell? ⟨go8,(x2_1).toNat,none⟩=some (.int .i64 (rd x0_1 x2_1))) (ds:=[13,15]) (bl 16 0) TK rfl rfl ⟨hx158_0,hx159_0⟩ (fun hHeld=>?_);refine with_tabW slices_Reverse_int_int.tab3 slices_Reverse_int_int.bits3 (fun HT_ HW_=>?_)
   generalize wr.drew=w10 at HO_0 HK HB GG8 HQ11 HQ12 hf8_0 hf9_0 hx158_0 hx159_0 hx8_0 hx9_0 hHeld ⊢
   refine pureS (i:=0) (N:=some 14) (bl 16 1) rfl rfl (any_of HT_.out TK) ?_
   refine pureS (i:=1) (N:=some 15) (bl 16 3) rfl rfl (any_of HT_.out TK) ?_
   refine pureS (i:=2) (N:=some 16) (bl 16 7) rfl rfl (any_of HT_.out TK) ?_
   refine pureS (i:=3) (N:=some 17) (bl 16 15) rfl rfl (any_of HT_.out TK) ?_
   refine pureS (i:=4) (N:=some 18) (bl 16 31) rfl rfl (any_of HT_.out TK) ?_
   refine pureS (i:=5) (N:=some 19) (bl 16 63) rfl rfl (any_of HT_.out TK) ?_
   refine pureS (i:=6) (N:=some 20) (bl 16 127) rfl rfl (any_of HT_.out TK) ?_
   refine pureS (i:=8) (N:=some 22) (bl 16 383) rfl rfl (any_of HT_.out TK) ?_
   refine pureS (i:=9) (N:=some 23) (bl 16 895) rfl rfl (any_of HT_.out TK) ?_
   refine pureS (i:=10) (N:=some 24) (bl 16 1919) rfl rfl (any_of HT_.out TK) ?_
   refine take_ (i:=7) (N:=some 21) (v:=?_) (a':=?_) (bl 16 2047) rfl rfl (take_ofW HT_.out HW_.out TK) (fun _ _ _ h=>h) (Or.inl ⟨by rfl,?_⟩) hHeld ?_ ?_
   rotate_left
   ·
    rintro w' ⟨s0,s1⟩
    go_simp
    with_reducible rfl
   rotate_left
   ·
    simp only [PT]
    rfl
   refine take_ (i:=11) (N:=some 25) (v:=?_) (a':=?_) (bl 16 4095) rfl rfl (take_ofW HT_.out HW_.out TK) (fun _ _ _ h=>h) (Or.inl ⟨by rfl,?_⟩) hHeld ?_ ?_
   rotate_left
   ·
    rintro w' ⟨s0,s1⟩
    go_simp
    with_reducible rfl
   rotate_left
   ·
    simp only [PT]
    rfl
   refine pureS (i:=12) (N:=some 26) (bl 16 8191) rfl rfl (any_of HT_.out TK) ?_
   refine last_ (i:=13) (N:=none) (bl 16 16383) rfl rfl (one_of HT_.out TK) (by decide) (fun K hK=>?_)
   refine skip_ (w1:=?_) (by rfl) rfl ?_ ?_
   rotate_left
   ·
    go_simp
    rfl
   refine hK.out _ _ ?_
   clear hK K
   refine pureS (i:=14) (N:=some 27) (bl 16 32767) rfl rfl (any_of HT_.out TK) ?_
   refine last_ (i:=15) (N:=none) (bl 16 65535) rfl rfl (one_of HT_.out TK) (by decide) (fun K hK=>?_)
   refine skip_ (w1:=?_) (by rfl) rfl ?_ ?_
   rotate_left
   ·
    go_simp
    rfl
   refine hK.out _ _ ?_
   clear hK K
   refine done_ (done_of HT_.out TK) ?_
   try go_wp2
   (try simp only [← hl0_1])
   go_roundg k1
   case measure=>have:=HK1.out;omega
   case rel=>exact ⟨(y161),(wrap64 (x2_1+1)),(wrap64 (x3_1 - 1)),TS,TS,H',⟨by have:=HK1.out;omega⟩,⟨by (try simp only [hl0_1]);(with_reducible repeat (first|apply Kd.R_alloc|apply Kd.R_drewN|apply Kd.R_drew));exact HQ12.out⟩,⟨by repeat (first|(with_reducible first|exact HK.out|apply Kept.alloc|apply Kept.drewN|apply Kept.drew|refine Kept.setCell ?_ HMgo8.out _|refine Kept.setCell ?_ HMgo8.out _)|exact HK.out)⟩,⟨by repeat (first|(with_reducible first|exact HB.out|apply below_alloc|apply pw_below_drewN|apply below_drew1|refine below_set ?_ GB8.out|refine below_set ?_ GB8.out)|exact HB.out)⟩⟩
mutual
def bidi_turn.l0:Nat→List Int→Int→Int→List Int→Int→Option (List Int)
 | 0,_,_,_,_,_=>none
 | k+1,x0,x2,x3,x9,x10=>if x10 < x2 then (bidi_turn.l1 k x0 x2 x3 x9 x10 x10) else (some x9)
def bidi_turn.j2:Nat→List Int→Int→Int→List Int→Int→Int→Option (List Int)
 | 0,_,_,_,_,_,_=>none
 | k+1,x0,x2,x3,x9,x10,x11=>if x11=x10 then (if x9.length < 17592186044416 then (bidi_turn.l0 k x0 x2 x3 (x9++[x10]) (wrap64 (x10+1))) else (none)) else ((bidi_turn.f k x0 x10 x11 (wrap64 (x3+1))).bind fun t166=>((slices_Reverse_int_int.f k t166).bind fun t169=>(if x9.length+t169.length < 17592186044416 then (bidi_turn.l0 k x0 x2 x3 (x9++t169) x11) else (none))))
def bidi_turn.l1:Nat→List Int→Int→Int→List Int→Int→Int→Option (List Int)
 | 0,_,_,_,_,_,_=>none
 | k+1,x0,x2,x3,x9,x10,x11=>if x11 < x2 then (if 0≤x11 then (if x11 < (x0.length:Int) then (if (rd x0 x11)≥x3 then (bidi_turn.l1 k x0 x2 x3 x9 x10 (wrap64 (x11+1))) else (bidi_turn.j2 k x0 x2 x3 x9 x10 x11)) else (none)) else (none)) else (bidi_turn.j2 k x0 x2 x3 x9 x10 x11)
def bidi_turn.f:Nat→List Int→Int→Int→Int→Option (List Int)
 | 0,_,_,_,_=>none
 | k+1,l0,a1,a2,a3=>bidi_turn.l0 k l0 a2 a3 ([]:List Int) a1
end
theorem bidi_turn.mono_l: ∀ k,(∀ y0 y1 y2 y3,LeO (bidi_turn.f k y0 y1 y2 y3) (bidi_turn.f (k+1) y0 y1 y2 y3))∧(∀ y0 y1 y2 y3 y4,LeO (bidi_turn.l0 k y0 y1 y2 y3 y4) (bidi_turn.l0 (k+1) y0 y1 y2 y3 y4))∧(∀ y0 y1 y2 y3 y4 y5,LeO (bidi_turn.j2 k y0 y1 y2 y3 y4 y5) (bidi_turn.j2 (k+1) y0 y1 y2 y3 y4 y5))∧(∀ y0 y1 y2 y3 y4 y5,LeO (bidi_turn.l1 k y0 y1 y2 y3 y4 y5) (bidi_turn.l1 (k+1) y0 y1 y2 y3 y4 y5))
 | 0=>⟨fun _ _ _ _ r h=>by simp [bidi_turn.f] at h,fun _ _ _ _ _ r h=>by simp [bidi_turn.l0] at h,fun _ _ _ _ _ _ r h=>by simp [bidi_turn.j2] at h,fun _ _ _ _ _ _ r h=>by simp [bidi_turn.l1] at h⟩
 | k+1=>by
  obtain ⟨ih0,ih1,ih2,ih3⟩:=bidi_turn.mono_l k
  refine ⟨?_,?_,?_,?_⟩
  ·
   intros
   unfold bidi_turn.f
   have j0:=@slices_Reverse_int_int.mono
   exact TL
  ·
   intros
   unfold bidi_turn.l0
   have j0:=@slices_Reverse_int_int.mono
   exact TL
  ·
   intros
   unfold bidi_turn.j2
   have j0:=@slices_Reverse_int_int.mono
   exact TL
  ·
   intros
   unfold bidi_turn.l1
   have j0:=@slices_Reverse_int_int.mono
   exact TL
theorem bidi_turn.mono: ∀ a0 a1 a2 a3 k,LeO (bidi_turn.f k a0 a1 a2 a3) (bidi_turn.f (k+1) a0 a1 a2 a3):=by
 intro a0 a1 a2 a3 k
 obtain ⟨ih0,ih1,ih2,ih3⟩:=bidi_turn.mono_l k
 exact ih0 a0 a1 a2 a3
set_option maxHeartbeats 8000000 in
theorem bidi_turn.calls (k:Nat): ∀ (A0:Option Addr) (c0:Nat) (l0:List Int) (a1:Int) (a2:Int) (a3:Int) (r:List Int) (w:World) (hr0:Kd.C (Kd.int .i64) w A0 l0.length l0) (hc0:l0.length≤c0) (h:bidi_turn.f k l0 a1 a2 a3=some r),
  Calls Try.prog 51 #[.slice A0 l0.length c0,.int .i64 a1,.int .i64 a2,.int .i64 a3] w fun e w'=> ∃ v0_:Value,e= .returned (v0_)∧Kd.R (Kd.int .i64) 3 w' w.heap.size (fun _=>True) v0_ r∧Below w.heap.size w w':=by
 induction k using Nat.strongRecOn with
 | _ k ih =>
 intro A0 c0 l0 a1 a2 a3 r w hr0 hc0 h
 cases k with
 | zero=>exact absurd h (by simp [bidi_turn.f])
 | succ k =>
 simp only [bidi_turn.f] at h
 have HR0:=Am hr0
 have HC0:=Am hc0
 clear hr0 hc0
 have HB:=Am (Below.refl w.heap.size w)
 have H:(bidi_turn.l0 k l0 a2 a3 ([]:List Int) a1)=some r:=h
 clear h
 have H':=Am H
 clear H
 go_enter Try.func51,Try.ntmps51
 try dsimp only [List.append]
 go_wp2
 go_loopg [9,10] k (fun kq v9 v10 w'=> ∃ (x9_1:List Int) (x10_1:Int),v10= .int .i64 x10_1∧Aside0 (bidi_turn.l0 kq l0 a2 a3 x9_1 x10_1=some r)∧Aside0 (kq≤k)∧Aside0 (Kd.R (Kd.int .i64) 3 w' w.heap.size (fun _=>True) v9 x9_1)∧Aside0 (Below w.heap.size w w'))
 case atStart=>exact ⟨(([]:List Int)),(a1),TS,H',⟨Nat.le_refl _⟩,⟨by first|exact Kd.R_nil _ _ _ _ _|exact Kd.N_nil _ _ _ _ _|exact Kd.V_nil _ _ _ _ _|exact Kd.Q_nil _ _ _ _ _|exact Kd.S_nil _ _ _ _ _⟩,⟨TB⟩⟩
 case round =>
  clear H'
  obtain ⟨x9_1,x10_1,rfl,HA,HK1,HO_9,HB⟩:=hrel
  cases gk with
  | zero=>exact absurd HA.out (by simp [bidi_turn.l0])
  | succ k1 =>
   have H:=HA.out
   clear HA
   simp only [bidi_turn.l0] at H
   by_cases c5:x10_1 < a2
   rotate_left
   ·
    rw [if_neg c5] at H
    have c5b0:decide (x10_1 < a2)=false:=decide_eq_false c5
    clear c5
    obtain rfl:=Option.some.inj H
    go_wp2
    go_ret
    exact ⟨_,TE,RU HO_9.out,TB⟩
   rw [if_pos c5] at H
   have c5b0:decide (x10_1 < a2)=true:=decide_eq_true c5
   clear c5
   have HC6:=Am H
   clear H
   go_upto_block 2 with (fail)
   go_cut [11] (fun v11 wc=> ∃ (kq:Nat) (x11_5:Int),v11= .int .i64 x11_5∧Aside0 (bidi_turn.j2 kq l0 a2 a3 x9_1 x10_1 x11_5=some r)∧Aside0 (kq≤k1)∧Aside0 (Kd.R (Kd.int .i64) 3 wc w.heap.size (fun _=>True) u9 x9_1)∧Aside0 (Below w.heap.size w wc))
   case first =>
    have H:=HC6.out
    clear HC6
    have H':=Am H
    clear H
    go_wp2
    go_loopg [11] k1 (fun kq v11 w'=> ∃ (x11_2:Int),v11= .int .i64 x11_2∧Aside0 (bidi_turn.l1 kq l0 a2 a3 x9_1 x10_1 x11_2=some r)∧Aside0 (kq≤k1)∧Aside0 (Kd.R (Kd.int .i64) 3 w' w.heap.size (fun _=>True) u9 x9_1)∧Aside0 (Below w.heap.size w w'))
    case atStart=>exact ⟨(x10_1),TS,H',⟨Nat.le_refl _⟩,⟨RU HO_9.out⟩,⟨TB⟩⟩
    case round =>
     clear H'
     obtain ⟨x11_2,rfl,HA,HK2,HO_9,HB⟩:=hrel
     cases gk with
     | zero=>exact absurd HA.out (by simp [bidi_turn.l1])
     | succ k2 =>
      have H:=HA.out
      clear HA
      simp only [bidi_turn.l1] at H
      by_cases c7:x11_2 < a2
      rotate_left
      ·
       rw [if_neg c7] at H
       have c7b0:decide (x11_2 < a2)=false:=decide_eq_false c7
       clear c7
       (first|rw [c7b0]|(simp only [i64_w,i32_w];rw [c7b0])|skip)
       have H':=Am H
       clear H
       go_wp2
       go_meet
       case rel=>exact ⟨_,(x11_2),TS,H',⟨by have:=HK1.out;have:=HK2.out;first|omega|exact Nat.le_refl _⟩,⟨RU HO_9.out⟩,⟨TB⟩⟩
      rw [if_pos c7] at H
      have c7b0:decide (x11_2 < a2)=true:=decide_eq_true c7
      clear c7
      (first|rw [c7b0]|(simp only [i64_w,i32_w];rw [c7b0])|skip)
      obtain ⟨c8,H⟩:=ifS H
      have c8b0:decide (0≤x11_2)=true:=decide_eq_true c8
      clear c8
      obtain ⟨c9,H⟩:=ifS H
      have c9b0:decide (x11_2 < (l0.length:Int))=true:=decide_eq_true c9
      clear c9
      by_cases c10:(rd l0 x11_2)≥a3
      rotate_left
      ·
       rw [if_neg c10] at H
       have c10b0:decide (a3≤(rd l0 x11_2))=false:=decide_eq_false c10
       clear c10
       have H':=Am H
       clear H
       have p162:0≤(x11_2:Int):=tD
       have q162:x11_2 < (l0.length:Int):=tD
       obtain ⟨ad162,e162,hx162_0⟩:=Kd.at_int HR0.out x11_2 p162 q162
       cases e162
       replace hx162_0:=cellU HB.out hx162_0
       replace p162:=eq_true p162
       replace q162:=eq_true q162
       go_wp2
       go_meet
       case rel=>exact ⟨_,(x11_2),TS,H',⟨by have:=HK1.out;have:=HK2.out;first|omega|exact Nat.le_refl _⟩,⟨RU HO_9.out⟩,⟨TB⟩⟩
      rw [if_pos c10] at H
      have c10b0:decide (a3≤(rd l0 x11_2))=true:=decide_eq_true c10
      clear c10
      have H':=Am H
      clear H
      have p162:0≤(x11_2:Int):=tD
      have q162:x11_2 < (l0.length:Int):=tD
      obtain ⟨ad162,e162,hx162_0⟩:=Kd.at_int HR0.out x11_2 p162 q162
      cases e162
      replace hx162_0:=cellU HB.out hx162_0
      replace p162:=eq_true p162
      replace q162:=eq_true q162
      go_wp2
      go_roundg k2
      case measure=>have:=HK1.out;have:=HK2.out;omega
      case rel=>exact ⟨(wrap64 (x11_2+1)),TS,H',⟨by have:=HK1.out;have:=HK2.out;omega⟩,⟨RU HO_9.out⟩,⟨TB⟩⟩
   case rest =>
    clear HC6
    obtain ⟨kq,x11_5,rfl,HA,HJ5,HO_9,HB⟩:=hcut
    cases kq with
    | zero=>exact absurd HA.out (by simp [bidi_turn.j2])
    | succ kj5 =>
     have H:=HA.out
     clear HA
     simp only [bidi_turn.j2] at H
     by_cases c11:x11_5=x10_1
     ·
      rw [if_pos c11] at H
      have c11b0:(x11_5==x10_1)=true:=beq_iff_eq.mpr c11
      have c11b1:(x11_5 !=x10_1)=false:=bne_eq_false_iff_eq.mpr c11
      clear c11
      obtain ⟨c12,H⟩:=ifS H
      have LMc12:=Am c12
      clear c12
      obtain ⟨y163,hy163⟩: ∃ y_:List Int,y_=(x9_1++[x10_1]):=⟨_,rfl⟩
      replace H:(bidi_turn.l0 kj5 l0 a2 a3 y163 (wrap64 (x10_1+1)))=some r:=by first|(rw [hy163];with_reducible exact H)|(have H2_:=(Option.bind_some _ _).symm.trans H;rw [hy163];with_reducible exact H2_)|(have H2_:=(Option.bind_some _ _).symm.trans H;with_reducible exact H2_)|with_reducible exact H|(rw [hy163];exact H)|exact H
      have Ny163:=Am hy163
      clear hy163
      have H':=Am H
      clear H
      go_wp2_with (first|((with_reducible refine gate_builtin (b:= .append) (xs:= #[.tmp 34,.tmp 36]) rfl ?_);at_builtin;refine Kd.R_append (Kd.int .i64) (w0:=w) w.heap.size rfl (.tmp 34) (.tmp 36) 23 3 (.int .i64 0) 8 rfl Try.underlying23 info3 rfl (by decide) (by omega) u9 x9_1 x10_1 [.int .i64 x10_1] (fun _=>True) (fun _=>False) rfl rfl ?aP (fun _ hk=>hk.elim) ?aF ?aO ?aB ?aS ?aL ?_;(case aP=>exact rfl);(case aB=>exact TB);(case aF=>exact (fun _ _=>trivial));(case aO=>exact (RU HO_9.out));(case aS=>exact (below_size TB));(case aL=>have:=LMc12.out;omega);intro v164 w13 ho hb hg hat;rw [← Ny163.out] at ho;have HO165:=Am (ho);replace HB:=Am (hb);clear HO_9;clear ho hb hg hat))
      go_roundg kj5
      case measure=>have:=HK1.out;have:=HJ5.out;omega
      case rel=>exact ⟨(y163),(wrap64 (x10_1+1)),TS,H',⟨by have:=HK1.out;have:=HJ5.out;omega⟩,⟨RU HO165.out⟩,⟨TB⟩⟩
     rw [if_neg c11] at H
     have c11b0:(x11_5==x10_1)=false:=beq_eq_false_iff_ne.mpr c11
     have c11b1:(x11_5 !=x10_1)=true:=bne_iff_ne.mpr c11
     obtain ⟨t166,A140,H⟩:=Option.bind_eq_some_iff.mp H
     try dsimp only at H
     have A14:=Am A140
     clear A140
     obtain ⟨t169,A150,H⟩:=Option.bind_eq_some_iff.mp H
     try dsimp only at H
     have A15:=Am A150
     clear A150
     obtain ⟨c16,H⟩:=ifS H
     have LMc16:=Am c16
     clear c16
     obtain ⟨y170,hy170⟩: ∃ y_:List Int,y_=(x9_1++t169):=⟨_,rfl⟩
     replace H:(bidi_turn.l0 kj5 l0 a2 a3 y170 x11_5)=some r:=by first|(rw [hy170];with_reducible exact H)|(have H2_:=(Option.bind_some _ _).symm.trans H;rw [hy170];with_reducible exact H2_)|(have H2_:=(Option.bind_some _ _).symm.trans H;with_reducible exact H2_)|with_reducible exact H|(rw [hy170];exact H)|exact H
     have Ny170:=Am hy170
     clear hy170
     have H':=Am H
     clear H
     go_wp2_with (first|((with_reducible refine gate_callee (f:=51) rfl ?_);refine goesL_ (some 45) rfl rfl Try.func51 TK rfl #[.slice A0 l0.length c0,.int .i64 x10_1,.int .i64 x11_5,.int .i64 (wrap64 (a3+1))] rfl TM ?_;(with_reducible refine (ih kj5 (by have:=HK1.out;have:=HJ5.out;omega) _ _ l0 x10_1 x11_5 (wrap64 (a3+1)) t166 _ ?side1 ?side2 A14.out).mono ?_);(case side1=>exact CU (Kd.C_below HR0.out HB.out));(case side2=>exact HC0.out);rintro e w17 ⟨v167,rfl,ho0,hb⟩;refine ⟨_,rfl,?_⟩;have HO168:=Am (Kd.R_lower (Kd.R_new' ho0 (Kd.R_lt (RU HO_9.out))) (below_size TB));replace HO_9:=Am (Kd.R_elder' (RU HO_9.out) (Kd.R_base ho0) hb);replace HB:=Am (below_step TB hb);(try clear hb);(try clear hb2);(try clear hk);(try clear hi);(try clear ho0);obtain ⟨Ao18,co18,eo18⟩:=Kd.R_slice HO168.out;subst eo18)|((with_reducible refine gate_callee (f:=79) rfl ?_);refine goesL_ (some 47) rfl rfl Try.func79 TK rfl #[.slice Ao18 t166.length co18] rfl TM ?_;(with_reducible refine (slices_Reverse_int_int.calls kj5 (fun k_=>some k_=(.slice Ao18 t166.length co18:Value).ownBlock) (.slice Ao18 t166.length co18) t166 t169 w _ ?side1 ?side2 A15.out).mono ?_);(case side1=>repeat (first|(with_reducible first|exact HB.out|apply below_alloc|apply pw_below_drewN|apply below_drew1)|exact HB.out));(case side2=>exact Kd.R_tight rfl HO168.out);rintro e w19 ⟨rfl,hy0,hb,hkp⟩;refine ⟨_,rfl,?_⟩;replace HO_9:=Am (Kd.R_mono (ok':=fun k_=>some k_≠(.slice Ao18 t166.length co18:Value).ownBlock) (Kd.R_keptB (HO_9.out) hkp (fun k_ hk_ hs_=>(hk_.2) hs_)) (fun k_ hk_=>hk_.1.2));replace HO168:=Am (Kd.R_reok rfl hy0 (fun k_ e_=>HO168.out.1 k_ e_));replace HB:=Am (hb);(try clear hb);(try clear hkp);(try clear hy0))|((with_reducible refine gate_builtin (b:= .append) (xs:= #[.tmp 48,.tmp 49]) rfl ?_);at_builtin;refine Kd.R_append_rows (Kd.int .i64) (w0:=w) w.heap.size rfl (.tmp 48) (.tmp 49) 23 3 (.int .i64 0) 8 rfl Try.underlying23 info3 rfl (by decide) (by omega) u9 x9_1 t169 _ _ _ (fun k_=>some k_≠(.slice Ao18 t166.length co18:Value).ownBlock) (fun _=>False) rfl rfl ?aO ?aR (fun _ _ h=>h) (fun _ h=>h.elim) ?aF ?aB ?aS ?aL ?_;(case aR=>rw [show t166.length=t169.length from (Kd.R_reads' HO168.out).1];repeat (first|exact (Kd.R_reads' HO168.out).2.2|(with_reducible refine Kd.C_alloc ?_ _)|(with_reducible refine Kd.C_drewN ?_ _)|(with_reducible refine Kd.C_drew ?_)));(case aB=>exact TB);(case aF=>exact (fun k_ hk=>Kd.fresh' (Kd.R_lt (RU HO168.out)) k_ hk));(case aO=>exact (RU HO_9.out));(case aS=>exact (below_size TB));(case aL=>have:=LMc16.out;have hlx_:=(Kd.R_reads' HO168.out).1;omega);intro v171 w20 ho hb hg hat;rw [← Ny170.out] at ho;replace HO168:=Am (Kd.R_after (ok:=(fun _=>True)) (RU HO168.out) hg hat);have HO172:=Am (ho);replace HB:=Am (hb);clear HO_9;clear ho hb hg hat))
     go_roundg kj5
     case measure=>have:=HK1.out;have:=HJ5.out;omega
     case rel=>exact ⟨(y170),(x11_5),TS,H',⟨by have:=HK1.out;have:=HJ5.out;omega⟩,⟨RU (Kd.R_mono HO172.out (fun _ hk=>trivial))⟩,⟨TB⟩⟩
def bidi_Order.l0:Nat→List Int→Int→Int→Option (List Int)
 | 0,_,_,_=>none
 | k+1,x3,x8,x9=>if x9 < x8 then (if 0≤x9 then (if x9 < (x3.length:Int) then (bidi_Order.l0 k (x3.set (x9:Int).toNat (mn (mx (rd x3 x9) 0) 126)) x8 (wrap64 (x9+1))) else (none)) else (none)) else ((bidi_turn.f k x3 0 (x3.length:Int) 1).bind fun t178=>(some t178))
def bidi_Order.f (k:Nat) (l0:List Int):Option (List Int):=(slices_Clone_int_int.f l0).bind fun t173=>(bidi_Order.l0 k t173 (t173.length:Int) 0)
theorem bidi_Order.mono_l: ∀ k,(∀ y0 y1 y2,LeO (bidi_Order.l0 k y0 y1 y2) (bidi_Order.l0 (k+1) y0 y1 y2))
 | 0=>fun _ _ _ r h=>by simp [bidi_Order.l0] at h
 | k+1=>by
  have ih0:=bidi_Order.mono_l k
  ·
   intros
   unfold bidi_Order.l0
   have j0:=@bidi_turn.mono
   exact TL
theorem bidi_Order.mono: ∀ a0 k,LeO (bidi_Order.f k a0) (bidi_Order.f (k+1) a0):=by
 intro a0 k
 have ih0:=bidi_Order.mono_l k
 unfold bidi_Order.f
 repeat' first
   | (with_reducible exact ih0 _ _ _)
   | (with_reducible exact bidi_turn.mono _ _ _ _ _)
   | (with_reducible exact LeO.refl _)
   | (with_reducible exact LeO.none _)
   | (with_reducible refine LeO.ite ?_ ?_)
   | (with_reducible refine LeO.bind ?_ (fun _=>?_))
set_option maxHeartbeats 8000000 in
theorem bidi_Order.calls (k:Nat) (A0:Option Addr) (c0:Nat) (l0:List Int) (r:List Int) (w:World) (hr0:Kd.C (Kd.int .i64) w A0 l0.length l0) (hc0:l0.length≤c0) (h:bidi_Order.f k l0=some r) :
  Calls Try.prog 33 #[.slice A0 l0.length c0] w fun e w'=> ∃ v0_:Value,e= .returned (v0_)∧Kd.R (Kd.int .i64) 3 w' w.heap.size (fun _=>True) v0_ r∧Below w.heap.size w w':=by
 have HR0:=Am hr0
 have HC0:=Am hc0
 clear hr0 hc0
 have HB:=Am (Below.refl w.heap.size w)
 have H:((slices_Clone_int_int.f l0).bind fun t173=>(bidi_Order.l0 k t173 (t173.length:Int) 0))=some r:=h
 clear h
 obtain ⟨t173,A20,H⟩:=Option.bind_eq_some_iff.mp H
 try dsimp only at H
 have A2:=Am A20
 clear A20
 have H':=Am H
 clear H
 go_enter Try.func33,Try.ntmps33
 go_wp2_with (first|((with_reducible refine gate_callee (f:=47) rfl ?_);refine goesL_ (some 6) rfl rfl Try.func47 TK rfl #[.slice A0 l0.length c0] rfl TM ?_;(with_reducible refine (slices_Clone_int_int.calls _ _ l0 t173 _ ?side1 ?side2 A2.out).mono ?_);(case side1=>exact CU HR0.out);(case side2=>exact HC0.out);rintro e w3 ⟨v174,rfl,ho0,hb⟩;refine ⟨_,rfl,?_⟩;have HO175:=Am (Kd.R_lower ho0 (below_size TB));replace HB:=Am (below_step TB hb);(try clear hb);(try clear hb2);(try clear hk);(try clear hi);(try clear ho0);obtain ⟨Ao4,co4,eo4⟩:=Kd.R_slice HO175.out;subst eo4))
 go_loopg [9] k (fun kq v9 w'=> ∃ (x3_1:List Int) (x9_1:Int),v9= .int .i64 x9_1∧Aside0 (bidi_Order.l0 kq x3_1 (t173.length:Int) x9_1=some r)∧Aside0 (kq≤k)∧Aside0 (Kd.R (Kd.int .i64) 3 w' w.heap.size (fun _=>True) (.slice Ao4 t173.length co4) x3_1)∧Aside0 (Below w.heap.size w w'))
 case atStart=>exact ⟨(t173),(0),TS,H',⟨Nat.le_refl _⟩,⟨RU HO175.out⟩,⟨TB⟩⟩
 case round =>
  clear H'
  obtain ⟨x3_1,x9_1,rfl,HA,HK1,HO_3,HB⟩:=hrel
  have hl3_1:=(Kd.R_reads' HO_3.out).1
  rw [hl3_1] at HO_3
  (try simp only [hl3_1])
  cases gk with
  | zero=>exact absurd HA.out (by simp [bidi_Order.l0])
  | succ k1 =>
   have H:=HA.out
   clear HA
   simp only [bidi_Order.l0] at H
   by_cases c5:x9_1 < (t173.length:Int)
   rotate_left
   ·
    rw [if_neg c5] at H
    have c5b0:decide (x9_1 < (t173.length:Int))=false:=decide_eq_false c5
    have c5b1:decide (x9_1 < (x3_1.length:Int))=false:=by first|(rw [hl3_1];exact c5b0)|(rw [← hl3_1];exact c5b0)
    clear c5
    obtain ⟨t178,A130,H⟩:=Option.bind_eq_some_iff.mp H
    try dsimp only at H
    have A13:=Am A130
    clear A130
    obtain rfl:=Option.some.inj H
    go_wp2_with (first|((with_reducible refine gate_callee (f:=51) rfl ?_);refine goesL_ (some 25) rfl rfl Try.func51 TK rfl #[.slice Ao4 x3_1.length co4,.int .i64 0,.int .i64 (x3_1.length:Int),.int .i64 1] rfl TM ?_;(with_reducible refine (bidi_turn.calls k1 _ _ x3_1 0 (x3_1.length:Int) 1 t178 _ ?side1 ?side2 A13.out).mono ?_);(case side1=>exact CU ((Kd.R_reads' HO_3.out).2.2));(case side2=>exact (Kd.R_reads' HO_3.out).2.1);rintro e w14 ⟨v179,rfl,ho0,hb⟩;refine ⟨_,rfl,?_⟩;have HO180:=Am (Kd.R_lower (Kd.R_new' ho0 (Kd.R_lt (RU HO_3.out))) (below_size TB));replace HO_3:=Am (Kd.R_elder' (RU HO_3.out) (Kd.R_base ho0) hb);replace HB:=Am (below_step TB hb);(try clear hb);(try clear hb2);(try clear hk);(try clear hi);(try clear ho0)))
    go_ret
    exact ⟨_,TE,RU (Kd.R_mono HO180.out (fun _ hk=>trivial)),TB⟩
   rw [if_pos c5] at H
   have c5b0:decide (x9_1 < (t173.length:Int))=true:=decide_eq_true c5
   clear c5
   obtain ⟨c6,H⟩:=ifS H
   have c6b0:decide (0≤x9_1)=true:=decide_eq_true c6
   clear c6
   obtain ⟨c7,H⟩:=ifS H
   have c7b0:decide (x9_1 < (x3_1.length:Int))=true:=decide_eq_true c7
   clear c7
   obtain ⟨ji8,hji8⟩: ∃ j_:Int,(mx (rd x3_1 x9_1) 0)=j_:=⟨_,rfl⟩
   replace H:(bidi_Order.l0 k1 (x3_1.set (x9_1:Int).toNat (mn (ji8) 126)) (t173.length:Int) (wrap64 (x9_1+1)))=some r:=by first|(rw [hji8] at H;exact H)|(simp only [hji8] at H ⊢;exact H)
   have hji8_:(if (rd x3_1 x9_1) < 0 then 0 else (rd x3_1 x9_1))=ji8:=hji8
   obtain ⟨ji9,hji9⟩: ∃ j_:Int,(mn (ji8) 126)=j_:=⟨_,rfl⟩
   replace H:(bidi_Order.l0 k1 (x3_1.set (x9_1:Int).toNat (ji9)) (t173.length:Int) (wrap64 (x9_1+1)))=some r:=by first|(rw [hji9] at H;exact H)|(simp only [hji9] at H ⊢;exact H)
   have hji9_:(if 126 < (ji8) then 126 else (ji8))=ji9:=hji9
   obtain ⟨y177,hy177⟩: ∃ y_:List Int,y_=(x3_1.set (x9_1:Int).toNat (ji9)):=⟨_,rfl⟩
   replace H:(bidi_Order.l0 k1 y177 (t173.length:Int) (wrap64 (x9_1+1)))=some r:=by first|(rw [hy177];with_reducible exact H)|(have H2_:=(Option.bind_some _ _).symm.trans H;rw [hy177];with_reducible exact H2_)|(have H2_:=(Option.bind_some _ _).symm.trans H;with_reducible exact H2_)|with_reducible exact H|(rw [hy177];exact H)|exact H
   have Ny177:=Am hy177
   clear hy177
   have H':=Am H
   clear H
   have p176:0≤(x9_1:Int):=tD
   have q176:x9_1 < (x3_1.length:Int):=tD
   obtain ⟨ad176,e176,hx176_0⟩:=Kd.at_int (Kd.R_reads' HO_3.out).2.2 x9_1 p176 q176
   cases e176
   replace p176:=eq_true p176
   replace q176:=eq_true q176
   have p10:0≤(x9_1:Int):=tD
   have q10:(x9_1:Int) < ((x3_1.length:Int):Int):=tD
   obtain ⟨go10,co10,eo10,gb10,gl10,cl10,HG10⟩:=Kd.R_form HO_3.out (by omega)
   (first|cases eo10|(injection eo10 with ea_ en_ ec_;(first|subst ea_|(injection ea_ with ea_;subst ea_));subst ec_;clear en_))
   have GB10:=Am gb10
   have GG10:=Am HG10
   clear gb10 gl10 HG10
   (first|simp only [add_plain] at hx176_0|skip)
   obtain ⟨hx10_0,hf10_0⟩:=Kd.R_celln 0 HO_3.out (x9_1:Int) p10 q10
   replace p10:=eq_true p10
   replace q10:=eq_true q10
   have HP11:=Kd.R_putg HO_3.out (x9_1:Int) ji9
   go_wp2_with (first|((with_reducible refine gate_store (t:=3) (p:=20) rfl ?_);refine store_event (t:=3) (p:=20) (v:=?vo_w12) (w1:=(wr.setCell ⟨go10,(x9_1:Int).toNat,none⟩ (.int .i64 ji9))) ?hg ?ho ?hn ?hr ?_;(case ho=>rfl);(case hg=>rfl);(case hn=>rfl);(case hr=>exact TG);intro w12 hw;have hg:wr.grownBy w12 (some go10):=(by rw [hw];exact HP11.2);have hp_:Kd.R (Kd.int .i64) 3 w12 w.heap.size (fun _=>True) (.slice (some ⟨go10,0,none⟩) x3_1.length co4) y177:=(by rw [hw,Ny177.out];exact HP11.1);clear HP11;replace HO_3:=Am (hp_);replace HB:=Am ((by rw [hw];exact below_set (HB.out) GB10.out:Below w.heap.size w w12));clear hg hw hp_))
   (try simp only [← hl3_1])
   go_roundg k1
   case measure=>have:=HK1.out;omega
   case rel=>exact ⟨(y177),(wrap64 (x9_1+1)),TS,H',⟨by have:=HK1.out;omega⟩,⟨by (try simp only [hl3_1]);(with_reducible repeat (first|apply Kd.R_alloc|apply Kd.R_drewN|apply Kd.R_drew));exact HO_3.out⟩,⟨TB⟩⟩
structure mirror_find.Row where
 f:Int
 t:Int
 a:Int
 b:Bool
def mirror_find.rowsL:List mirror_find.Row:=[⟨40,41,1,true⟩,⟨60,62,2,false⟩,⟨91,93,2,true⟩,⟨123,125,2,true⟩,⟨171,187,16,false⟩,⟨3898,3901,1,true⟩,⟨5787,5788,1,true⟩,⟨8249,8250,1,false⟩,⟨8261,8262,1,true⟩,⟨8317,8318,1,true⟩,⟨8333,8334,1,true⟩,⟨8712,8717,3,false⟩,⟨8764,8765,1,false⟩,⟨8804,8811,1,false⟩,⟨8814,8841,1,false⟩,⟨8847,8850,1,false⟩,⟨8866,8867,1,false⟩,⟨8882,8885,1,false⟩,⟨8912,8913,1,false⟩,⟨8918,8941,1,false⟩,⟨8968,8971,1,true⟩,⟨9001,9002,1,true⟩,⟨10088,10101,1,true⟩,⟨10181,10182,1,true⟩,⟨10214,10223,1,true⟩,⟨10627,10636,1,true⟩,⟨10641,10648,1,true⟩,⟨10712,10715,1,true⟩,⟨10748,10749,1,true⟩,⟨11810,11817,1,true⟩,⟨12296,12305,1,true⟩,⟨12308,12315,1,true⟩,⟨65113,65118,1,true⟩,⟨65288,65289,1,true⟩,⟨65339,65341,2,true⟩,⟨65371,65373,2,true⟩,⟨65375,65376,1,true⟩,⟨65378,65379,1,true⟩]
def mirror_find.cells (r:mirror_find.Row):List Value:=[.int .i64 r.f,.int .i64 r.t,.int .i64 r.a,.bool r.b]
def mirror_find.all:List Value:=mirror_find.rowsL.flatMap mirror_find.cells
def mirror_find.z:mirror_find.Row:=⟨0,0,0,false⟩
def mirror_find.row (j:Nat):mirror_find.Row:=mirror_find.rowsL.getD j mirror_find.z
def mirror_find.at_ (c:Int):Nat:=mirror_find.rowsL.findIdx (fun r=>decide (c≤r.t))
def mirror_find.inRow (r:mirror_find.Row) (c:Int):Int × Int × Bool :=
 if r.a > 1∧c - r.f≠0∧c≠r.t∧r.t - r.f=r.a then (0,0,false) else if Int.tmod ((c - r.f) / r.a) 2=0 then (1,c+r.a,r.b) else (2,c - r.a,r.b)
def mirror_find.val (c:Int):Int × Int × Bool:=if mirror_find.at_ c < 38∧(mirror_find.row (mirror_find.at_ c)).f≤c then mirror_find.inRow (mirror_find.row (mirror_find.at_ c)) c else (0,0,false)
def mirror_find.f (a0:Int):Option (Int × Int × Bool):=some (mirror_find.val a0)
section
open Go.Proofs.YteoaegigjlhamaaH
theorem mirror_find.rows_size:(mirror_find.all).toArray.size=152:=by decide
theorem mirror_find.rows_one: ∀ q ∈ (Value.agg mirror_find.all.toArray).cells.toList,q.oneCell'=true:=by
 intro q hq
 have hq':q ∈ mirror_find.all:=by simpa [Value.cells] using hq
 unfold mirror_find.all at hq'
 obtain ⟨r,_,hr⟩:=List.mem_flatMap.1 hq'
 unfold mirror_find.cells at hr
 simp only [List.mem_cons,List.not_mem_nil,or_false] at hr
 rcases hr with rfl|rfl|rfl|rfl <;> rfl
set_option maxHeartbeats 4000000 in
theorem mirror_find.rows_calls (w:World):Calls Try.prog 101 #[] w fun e w'=>e= .returned (.agg mirror_find.all.toArray)∧Below w.heap.size w w':=by
 go_enter Try.func101,Try.ntmps101
 refine wp_seq (wp_region_list ?_)
 refine alloc_event rfl 139 rfl 152 TK ?_
 intro g w1 cs hcs hg hb hbel hsz
 refine wpList_nil (wp_seq (wp_region_list ?_))
 refine builds_event 77 _ 0 77 (.pointer (some ⟨g,0,none⟩)) (.agg mirror_find.all.toArray) TK ?_
 rintro ⟨tm,df⟩ h1 h2 h3
 have hs:=mirror_find.rows_size
 have ho:=mirror_find.rows_one
 generalize hV:Value.agg mirror_find.all.toArray=V at *
 refine block_store rfl rfl 139 (.tmp 0) (.tmp 77) rfl h1 V h2 hb (by rw [hcs,← hV];exact hs) (by rw [hcs];kernel_rfl) ho ?_
 intro w2 hb2 hk2 hs2 hB2
 refine wpList_nil (wp_ret ?_)
 subst hV
 exact bodyPost_ret (v:= .agg mirror_find.all.toArray) (results_c1 rfl _ _ _ _ _ _ _ h1 hb2 Try.underlying139 rfl (by rw [hs];kernel_rfl)) h3 ⟨rfl,hB2 _ _ hbel (by omega)⟩
theorem mirror_find.cmp_over (f t a c:Int) (b:Bool) (W:World) (h:c < f):Calls Try.prog 103 #[.agg #[.int .i64 f,.int .i64 t,.int .i64 a,.bool b],.int .i64 c] W fun e w'=>e= .returned (.int .i64 1)∧Below W.heap.size W w':=by
 have hb:decide (c < f)=true:=decide_eq_true h
 clear h
 go_enter Try.func103,Try.ntmps103
 go_wp2
 go_ret
 exact ⟨rfl,below_alloc (Below.refl _ _) _⟩
theorem mirror_find.cmp_under (f t a c:Int) (b:Bool) (W:World) (h0: ¬ c < f) (h:t < c):Calls Try.prog 103 #[.agg #[.int .i64 f,.int .i64 t,.int .i64 a,.bool b],.int .i64 c] W fun e w'=>e= .returned (.int .i64 (-1))∧Below W.heap.size W w':=by
 have hb0:decide (c < f)=false:=decide_eq_false h0
 have hb:decide (t < c)=true:=decide_eq_true h
 clear h h0
 go_enter Try.func103,Try.ntmps103
 go_wp2
 go_ret
 exact ⟨rfl,below_alloc (Below.refl _ _) _⟩
theorem mirror_find.cmp_in (f t a c:Int) (b:Bool) (W:World) (h0: ¬ c < f) (h: ¬ t < c):Calls Try.prog 103 #[.agg #[.int .i64 f,.int .i64 t,.int .i64 a,.bool b],.int .i64 c] W fun e w'=>e= .returned (.int .i64 0)∧Below W.heap.size W w':=by
 have hb0:decide (c < f)=false:=decide_eq_false h0
 have hb:decide (t < c)=false:=decide_eq_false h
 clear h h0
 go_enter Try.func103,Try.ntmps103
 go_wp2
 go_ret
 exact ⟨rfl,below_alloc (Below.refl _ _) _⟩
set_option maxHeartbeats 1000000 in
theorem mirror_find.search (R:Nat→mirror_find.Row) (g c n cnt:Nat) (y:Int) (w:World) (hg:g < w.heap.size) (hc: ∀ j,j < n→ ∀ (k:Nat) v,(mirror_find.cells (R j))[k]?=some v→w.cell? ⟨g,j * 4+k,none⟩=some v) (hlen:n < 4611686018427387904)
  (hs: ∀ a b,a < b→b < n→(R a).t < (R b).f) (hf: ∀ a,a < n→(R a).f≤(R a).t) (h1:cnt≤n) (h2: ∀ t,t < cnt→(R t).t < y) (h3: ∀ t,cnt≤t→t < n→y≤(R t).t) :
  Calls Try.prog 102 #[.slice (some ⟨g,0,none⟩) n c,.int .i64 y,.func (.func 103) #[] #[]] w fun e w'=>e= .returned (.tuple #[.int .i64 (cnt:Int),.bool (decide (cnt < n∧(R cnt).f≤y))])∧Below w.heap.size w w':=by
 have eg: ∀ args w,(callFunc 103 args).run Try.prog w= .ok (.enter 103 args) w:=enters_of Try.func103 TK rfl
 have HC:=Am hc
 have HS:=Am hs
 have HF:=Am hf
 have HG:=Am hg
 have HN:=Am (And.intro h1 (And.intro h2 h3))
 have HB0:=Am (Below.refl w.heap.size w)
 clear hc hs hg hf h1 h2 h3
 obtain ⟨fnd,hfnd⟩: ∃ m,m=decide (cnt < n∧(R cnt).f≤y):=⟨_,rfl⟩
 rw [← hfnd]
 have HFND:=Am hfnd
 clear hfnd
 go_enter Try.func102,Try.ntmps102
 go_wp2
 go_loopg [9,10] n (fun kx s9 s10 wr=> ∃ lo hi:Nat,s9= .int .i64 lo∧s10= .int .i64 hi∧lo≤hi∧hi≤n∧hi - lo≤kx∧Aside0 (Below w.heap.size w wr)∧Aside0 ((∀ t,t < lo→(R t).t < y)∧(∀ t,hi≤t→t < n→y≤(R t).t)))
 case atStart=>exact ⟨0,n,rfl,rfl,Nat.zero_le _,Nat.le_refl _,by omega,HB0,⟨fun t ht=>absurd ht (Nat.not_lt_zero _),fun t h1 h2=>by omega⟩⟩
 case round =>
  clear HB0
  obtain ⟨lo,hi,rfl,rfl,hlh,hin,hk,HB,I⟩:=hrel
  by_cases hlt:lo < hi
  ·
   have cm: ∀ (k:Nat) v,(mirror_find.cells (R ((lo+hi) / 2)))[k]?=some v→wr.cell? ⟨g,(lo+hi) / 2 * 4+k,none⟩=some v:=fun k v h=>(HB.out.cell (p:=⟨g,(lo+hi) / 2 * 4+k,none⟩) HG.out).trans (HC.out _ (by omega) k v h)
   rcases hv:R ((lo+hi) / 2) with ⟨rf,rt,ra,rb⟩
   rw [hv] at cm
   have V:=Am hv
   have cm0:wr.cell? ⟨g,(lo+hi) / 2 * 4,none⟩=some (.int .i64 rf):=cm 0 _ rfl
   have cm1:wr.cell? ⟨g,(lo+hi) / 2 * 4+1,none⟩=some (.int .i64 rt):=cm 1 _ rfl
   have cm2:wr.cell? ⟨g,(lo+hi) / 2 * 4+2,none⟩=some (.int .i64 ra):=cm 2 _ rfl
   have cm3:wr.cell? ⟨g,(lo+hi) / 2 * 4+3,none⟩=some (.bool rb):=cm 3 _ rfl
   clear hv cm
   by_cases h1:y < rf
   ·
    have HV:=Am (show y < rf from h1)
    clear h1
    go_wp2_with (go_at_fn 103;refine (mirror_find.cmp_over _ _ _ _ _ _ HV.out).mono ?_;rintro e w2 ⟨rfl,hb2⟩;replace HB:=Am (below_step HB.out hb2);clear hb2)
    go_roundg ((lo+hi) / 2 - lo)
    case measure=>omega
    case rel =>
     refine ⟨lo,(lo+hi) / 2,rfl,by rw [show ((lo:Int)+(hi:Int)) / 2=(((lo+hi) / 2:Nat):Int) by omega],by omega,by omega,Nat.le_refl _,HB,⟨I.out.1,fun t ht htn=>?_⟩⟩
     have h5:=HF.out ((lo+hi) / 2) (by omega)
     have h6:=HV.out
     rw [V.out] at h5
     by_cases he:t=(lo+hi) / 2
     ·
      rw [he,V.out]
      show y≤rt
      have:rf≤rt:=h5
      omega
     ·
      have h7:=HS.out ((lo+hi) / 2) t (by omega) htn
      have h8:=HF.out t htn
      rw [V.out] at h7
      have:rt < (R t).f:=h7
      have:rf≤rt:=h5
      omega
   ·
    by_cases h2:rt < y
    ·
     have HV0:=Am h1
     have HV:=Am h2
     clear h1 h2
     go_wp2_with (go_at_fn 103;refine (mirror_find.cmp_under _ _ _ _ _ _ HV0.out HV.out).mono ?_;rintro e w2 ⟨rfl,hb2⟩;replace HB:=Am (below_step HB.out hb2);clear hb2)
     go_roundg (hi - ((lo+hi) / 2+1))
     case measure=>omega
     case rel =>
      refine ⟨(lo+hi) / 2+1,hi,by rw [show ((lo:Int)+(hi:Int)) / 2+1=(((lo+hi) / 2+1:Nat):Int) by omega],rfl,by omega,hin,Nat.le_refl _,HB,⟨fun t ht=>?_,I.out.2⟩⟩
      have h6:=HV.out
      by_cases he:t=(lo+hi) / 2
      ·
       rw [he,V.out]
       exact h6
      ·
       have h7:=HS.out t ((lo+hi) / 2) (by omega) (by omega)
       have h8:=HF.out ((lo+hi) / 2) (by omega)
       rw [V.out] at h7 h8
       have:(R t).t < rf:=h7
       have:rf≤rt:=h8
       omega
    ·
     have HV0:=Am h1
     have HV1:=Am h2
     have HV:=Am (show y≤rt by omega)
     clear h1 h2
     go_wp2_with (go_at_fn 103;refine (mirror_find.cmp_in _ _ _ _ _ _ HV0.out HV1.out).mono ?_;rintro e w2 ⟨rfl,hb2⟩;replace HB:=Am (below_step HB.out hb2);clear hb2)
     go_roundg ((lo+hi) / 2 - lo)
     case measure=>omega
     case rel =>
      refine ⟨lo,(lo+hi) / 2,rfl,by rw [show ((lo:Int)+(hi:Int)) / 2=(((lo+hi) / 2:Nat):Int) by omega],by omega,by omega,Nat.le_refl _,HB,⟨I.out.1,fun t ht htn=>?_⟩⟩
      have h5:=HF.out ((lo+hi) / 2) (by omega)
      have h6:=HV.out
      rw [V.out] at h5
      by_cases he:t=(lo+hi) / 2
      ·
       rw [he,V.out]
       show y≤rt
       have:rf≤rt:=h5
       omega
      ·
       have h7:=HS.out ((lo+hi) / 2) t (by omega) htn
       have h8:=HF.out t htn
       rw [V.out] at h7
       have:rt < (R t).f:=h7
       have:rf≤rt:=h5
       omega
  ·
   obtain rfl:hi=lo:=by omega
   have ecnt:cnt=hi:=by
    obtain ⟨n1,n2,n3⟩:=HN.out
    obtain ⟨i1,i2⟩:=I.out
    rcases Nat.lt_trichotomy cnt hi with h|h|h
    ·
     have:=i1 cnt h
     have:=n3 cnt (Nat.le_refl _) (by omega)
     omega
    ·
     exact h
    ·
     have:=n2 hi h
     have:=i2 hi (Nat.le_refl _) (by omega)
     omega
   subst ecnt
   by_cases hcn:cnt < n
   ·
    have cm: ∀ (k:Nat) v,(mirror_find.cells (R cnt))[k]?=some v→wr.cell? ⟨g,cnt * 4+k,none⟩=some v:=fun k v h=>(HB.out.cell (p:=⟨g,cnt * 4+k,none⟩) HG.out).trans (HC.out _ hcn k v h)
    have hle:=I.out.2 cnt (Nat.le_refl _) hcn
    rcases hv:R cnt with ⟨rf,rt,ra,rb⟩
    rw [hv] at cm hle
    have cm0:wr.cell? ⟨g,cnt * 4,none⟩=some (.int .i64 rf):=cm 0 _ rfl
    have cm1:wr.cell? ⟨g,cnt * 4+1,none⟩=some (.int .i64 rt):=cm 1 _ rfl
    have cm2:wr.cell? ⟨g,cnt * 4+2,none⟩=some (.int .i64 ra):=cm 2 _ rfl
    have cm3:wr.cell? ⟨g,cnt * 4+3,none⟩=some (.bool rb):=cm 3 _ rfl
    have hfd:=HFND.out
    rw [hv] at hfd
    have V:=Am hv
    clear hv cm HFND
    by_cases h1:y < rf
    ·
     have HV:=Am h1
     obtain rfl:fnd=false:=by rw [hfd];exact decide_eq_false (fun h=>by have:rf≤y:=h.2;omega)
     clear h1 hfd hle
     go_wp2_with (go_at_fn 103;refine (mirror_find.cmp_over _ _ _ _ _ _ HV.out).mono ?_;rintro e w2 ⟨rfl,hb2⟩;replace HB:=Am (below_step HB.out hb2);clear hb2)
     go_ret2
     exact ⟨rfl,HB.out⟩
    ·
     have HV0:=Am h1
     have HV1:=Am (show ¬ rt < y from by have:y≤rt:=hle;omega)
     obtain rfl:fnd=true:=by rw [hfd];exact decide_eq_true ⟨hcn,by show rf≤y;omega⟩
     clear h1 hfd hle
     go_wp2_with (go_at_fn 103;refine (mirror_find.cmp_in _ _ _ _ _ _ HV0.out HV1.out).mono ?_;rintro e w2 ⟨rfl,hb2⟩;replace HB:=Am (below_step HB.out hb2);clear hb2)
     go_ret2
     exact ⟨rfl,HB.out⟩
   ·
    obtain rfl:fnd=false:=by rw [HFND.out];exact decide_eq_false (fun h=>hcn h.1)
    go_wp2
    go_ret2
    exact ⟨rfl,HB.out⟩
theorem mirror_find.row_facts: ∀ j,j < 38→0≤(mirror_find.row j).f∧(mirror_find.row j).f≤(mirror_find.row j).t∧(mirror_find.row j).t≤70000∧1≤(mirror_find.row j).a∧(mirror_find.row j).a≤16:=by
 have h: ∀ j:Fin 38,0≤(mirror_find.row j.val).f∧(mirror_find.row j.val).f≤(mirror_find.row j.val).t∧(mirror_find.row j.val).t≤70000∧1≤(mirror_find.row j.val).a∧(mirror_find.row j.val).a≤16:=by decide +kernel
 exact fun j hj=>h ⟨j,hj⟩
theorem mirror_find.row_up: ∀ a b,a < b→b < 38→(mirror_find.row a).t < (mirror_find.row b).f:=by
 have h: ∀ b:Fin 38,∀ a:Fin b.val,(mirror_find.row a.val).t < (mirror_find.row b.val).f:=by decide +kernel
 exact fun a b h1 h2=>h ⟨b,h2⟩ ⟨a,h1⟩
theorem mirror_find.at_le (c:Int):mirror_find.at_ c≤38:=List.findIdx_le_length
theorem mirror_find.at_before (c:Int) (t:Nat) (h:t < mirror_find.at_ c):(mirror_find.row t).t < c:=by
 have h38:=mirror_find.at_le c
 have hl:t < mirror_find.rowsL.length:=by show t < 38;omega
 have h1:=List.not_of_lt_findIdx (p:=fun r:mirror_find.Row=>decide (c≤r.t)) h
 have h2:mirror_find.row t=mirror_find.rowsL[t]:=by
  unfold mirror_find.row
  rw [List.getD_eq_getElem?_getD,List.getElem?_eq_getElem hl]
  rfl
 rw [h2]
 simpa using h1
theorem mirror_find.at_here (c:Int) (h:mirror_find.at_ c < 38):c≤(mirror_find.row (mirror_find.at_ c)).t:=by
 have h1:=List.findIdx_getElem (p:=fun r:mirror_find.Row=>decide (c≤r.t)) (w:=h)
 have h2:mirror_find.row (mirror_find.at_ c)=mirror_find.rowsL[mirror_find.at_ c]'h:=by
  unfold mirror_find.row
  rw [List.getD_eq_getElem?_getD,List.getElem?_eq_getElem h]
  rfl
 rw [h2]
 exact of_decide_eq_true h1
theorem mirror_find.at_behind (c:Int) (t:Nat) (h:mirror_find.at_ c≤t) (ht:t < 38):c≤(mirror_find.row t).t:=by
 have h1:=mirror_find.at_here c (by omega)
 by_cases he:mirror_find.at_ c=t
 ·
  rw [← he];exact h1
 ·
  have:=mirror_find.row_up (mirror_find.at_ c) t (by omega) ht
  have:=(mirror_find.row_facts t ht).2.1
  omega
theorem mirror_find.flat_at: ∀ (l:List mirror_find.Row) (j k:Nat) (v:Value),j < l.length→(mirror_find.cells (l.getD j mirror_find.z))[k]?=some v→(l.flatMap mirror_find.cells)[j * 4+k]?=some v
 | [],j,k,v,h,_=>by simp at h
 | r::l,0,k,v,h,hk=>by
  have hk4:k < 4:=by
   have:=(List.getElem?_eq_some_iff.1 hk).1
   simpa [mirror_find.cells] using this
  rw [List.flatMap_cons,Nat.zero_mul,Nat.zero_add,List.getElem?_append_left (by simpa [mirror_find.cells] using hk4)]
  exact hk
 | r::l,j+1,k,v,h,hk=>by
  rw [List.flatMap_cons,List.getElem?_append_right (by simp [mirror_find.cells];omega)]
  have:=mirror_find.flat_at l j k v (by simpa using h) hk
  rw [show (j+1) * 4+k - (mirror_find.cells r).length=j * 4+k by simp [mirror_find.cells];omega]
  exact this
theorem mirror_find.blk_cells (W:World) (g:Nat) (h:W.heap[g]?=some (.cells mirror_find.all.toArray 139 (0,0))) (j:Nat) (hj:j < 38) (k:Nat) (v:Value) (hk:(mirror_find.cells (mirror_find.row j))[k]?=some v):W.cell? ⟨g,j * 4+k,none⟩=some v:=by
 rw [blk_cell h]
 have:=mirror_find.flat_at mirror_find.rowsL j k v hj hk
 simpa [mirror_find.all] using this
theorem mirror_find.row_cells (W:World) (g:Nat) (a b c:Int) (d:Bool) (h:W.heap[g]?=some (.cells (Value.agg #[.int .i64 a,.int .i64 b,.int .i64 c,.bool d]).cells 138 (0,0))) :
  W.cell? ⟨g,0,none⟩=some (.int .i64 a)∧W.cell? ⟨g,1,none⟩=some (.int .i64 b)∧W.cell? ⟨g,2,none⟩=some (.int .i64 c)∧W.cell? ⟨g,3,none⟩=some (.bool d) :=
 ⟨(blk_cell h 0).trans rfl,(blk_cell h 1).trans rfl,(blk_cell h 2).trans rfl,(blk_cell h 3).trans rfl⟩
theorem mirror_find.row_one (a b c:Int) (d:Bool): ∀ q ∈ (Value.agg #[.int .i64 a,.int .i64 b,.int .i64 c,.bool d]).cells.toList,q.oneCell'=true:=by
 intro q hq
 have hq':q ∈ [Value.int .i64 a,.int .i64 b,.int .i64 c,.bool d]:=hq
 simp only [List.mem_cons,List.not_mem_nil,or_false] at hq'
 rcases hq' with rfl|rfl|rfl|rfl <;> rfl
set_option maxHeartbeats 4000000 in
theorem mirror_find.calls (a0:Int) (r1:Int) (r2:Int) (r3:Bool) (w:World) (h:mirror_find.f a0=some (r1,r2,r3)) :
  Calls Try.prog 80 #[.int .i64 a0] w fun e w'=>e= .returned (.tuple #[.int .i64 r1,.int .i64 r2,.bool r3])∧Below w.heap.size w w':=by
 have hv:mirror_find.val a0=(r1,r2,r3):=Option.some.inj h
 clear h
 have HSZ:=Am mirror_find.rows_size
 have HONE:=Am mirror_find.rows_one
 have HROWS:=Am mirror_find.rows_calls
 have HBC:=Am mirror_find.blk_cells
 have hse:=fun g W c (hg:g < W.heap.size) hc=>mirror_find.search mirror_find.row g c 38 (mirror_find.at_ a0) a0 W hg hc (by decide) mirror_find.row_up (fun a h=>(mirror_find.row_facts a h).2.1) (mirror_find.at_le a0) (mirror_find.at_before a0) (mirror_find.at_behind a0)
 have hfa:=mirror_find.row_facts (mirror_find.at_ a0)
 have hhe:=mirror_find.at_here a0
 unfold mirror_find.val at hv
 generalize mirror_find.at_ a0=n at *
 generalize hall:mirror_find.all=al at *
 generalize mirror_find.row=R at *
 clear hall
 by_cases hf:n < 38∧(R n).f≤a0
 ·
  have hd:decide (n < 38∧(R n).f≤a0)=true:=decide_eq_true hf
  rw [hd] at hse
  have HSE:=Am hse
  rw [if_pos hf] at hv
  obtain ⟨hn,hle⟩:=hf
  have hn2:=hhe hn
  have hfa:=hfa hn
  rcases hR:R n with ⟨rf,rt,ra,rb⟩
  have HR:=Am hR
  rw [hR] at hv hle hn2 hfa
  clear hse hd hhe hR
  obtain ⟨q0,q1,q2,q3,q4⟩:0≤rf∧rf≤rt∧rt≤70000∧1≤ra∧ra≤16:=hfa
  have q5:rf≤a0:=hle
  have q6:a0≤rt:=hn2
  have HN:=Am hn
  clear hle hn2 hfa
  have hv:(if ra > 1∧a0 - rf≠0∧a0≠rt∧rt - rf=ra then ((0,0,false):Int × Int × Bool) else if Int.tmod ((a0 - rf) / ra) 2=0 then (1,a0+ra,rb) else (2,a0 - ra,rb))=(r1,r2,r3):=hv
  by_cases c1:1 < ra
  rotate_left
  ·
   have b1:decide (1 < ra)=false:=decide_eq_false c1
   rw [if_neg (fun h_=>c1 h_.1)] at hv
   clear c1
   by_cases c5:Int.tmod ((a0 - rf) / ra) 2=0
   ·
    have b5:(Int.tmod ((a0 - rf) / ra) 2==0)=true:=beq_iff_eq.2 c5
    rw [if_pos c5] at hv
    obtain ⟨rfl,rfl,rfl⟩:(1:Int)=r1∧a0+ra=r2∧rb=r3:=by simpa using hv
    clear hv c5
    go_enter Try.func80,Try.ntmps80
    go_wp2_with (first|(go_at_call 101;refine (HROWS.out _).mono ?_;rintro e w1 ⟨rfl,hb1⟩;have HB:=Am hb1;clear hb1)|((with_reducible refine gate_dst (N:=5) rfl ?_);refine alloc_event rfl 139 rfl 152 TK ?_;intro g w2 cs hcs hg hb hbel hsz;have HG:=Am (show w.heap.size≤g by have:=HB.out.size;omega);replace HB:=Am (below_step HB.out hbel);have HK1:=Am hb;have HCS:=Am hcs;clear hcs hg hb hbel hsz)|((with_reducible refine gate_store (t:=139) (p:=5) rfl ?_);refine block_store rfl rfl 139 (.tmp 5) (.tmp 10) rfl rfl (.agg al.toArray) rfl HK1.out (by rw [HCS.out];exact HSZ.out) (by rw [HCS.out];kernel_rfl) HONE.out ?_;intro w3 hb3 hk3 hs3 hB3;replace HB:=Am (hB3 _ _ HB.out HG.out);have HK2:=Am hb3;clear HK1 hb3 hk3 hs3 hB3;have HGW:=Am (show g < w3.heap.size by obtain ⟨h_,_⟩:=Array.getElem?_eq_some_iff.1 HK2.out;exact h_))|(go_at_call 102;refine (HSE.out g _ _ HGW.out (fun j hj k v h_=>HBC.out _ g HK2.out j hj k v h_)).mono ?_;rintro e w4 ⟨rfl,hb4⟩;have HC4:=Am (fun j hj k v h_=>(hb4.cell (p:=⟨g,j * 4+k,none⟩) HGW.out).trans (HBC.out _ g HK2.out j hj k v h_));replace HB:=Am (below_step HB.out hb4);clear hb4 HK2;have cm0:w4.cell? ⟨g,n * 4,none⟩=some (.int .i64 rf):=HC4.out n HN.out 0 _ (by rw [HR.out];rfl);have cm1:w4.cell? ⟨g,n * 4+1,none⟩=some (.int .i64 rt):=HC4.out n HN.out 1 _ (by rw [HR.out];rfl);have cm2:w4.cell? ⟨g,n * 4+2,none⟩=some (.int .i64 ra):=HC4.out n HN.out 2 _ (by rw [HR.out];rfl);have cm3:w4.cell? ⟨g,n * 4+3,none⟩=some (.bool rb):=HC4.out n HN.out 3 _ (by rw [HR.out];rfl);clear HC4)|((with_reducible refine gate_dst (N:=8) rfl ?_);refine alloc_event rfl 138 rfl 4 TK ?_;intro g2 w5 cs2 hcs2 hg2 hb2 hbel2 hsz2;have HG2:=Am (show w.heap.size≤g2 by have:=HB.out.size;omega);replace HB:=Am (below_step HB.out hbel2);clear cm0 cm1 cm2 cm3;have HK3:=Am hb2;have HCS2:=Am hcs2;clear hcs2 hg2 hb2 hbel2 hsz2)|((with_reducible refine gate_store (t:=138) (p:=8) rfl ?_);go_loud (refine block_store rfl rfl 138 (.tmp 8) (.tmp 21) rfl rfl (Value.agg #[Value.int .i64 rf,Value.int .i64 rt,Value.int .i64 ra,Value.bool rb]) rfl HK3.out (by rw [HCS2.out];rfl) (by rw [HCS2.out];kernel_rfl) (mirror_find.row_one _ _ _ _) ?_);go_loud (intro w6 hb6 hk6 hs6 hB6;replace HB:=Am (hB6 _ _ HB.out HG2.out));go_loud (obtain ⟨d0,d1,d2,d3⟩:=mirror_find.row_cells w6 g2 _ _ _ _ hb6;clear HK3 hb6 hk6 hs6 hB6)))
    go_quiet (fail)
    all_goals (try go_wp2)
    go_ret3
    exact ⟨rfl,TB⟩
   have b5:(Int.tmod ((a0 - rf) / ra) 2==0)=false:=beq_eq_false_iff_ne.2 c5
   rw [if_neg c5] at hv
   obtain ⟨rfl,rfl,rfl⟩:(2:Int)=r1∧a0 - ra=r2∧rb=r3:=by simpa using hv
   clear hv c5
   go_enter Try.func80,Try.ntmps80
   go_wp2_with (first|(go_at_call 101;refine (HROWS.out _).mono ?_;rintro e w1 ⟨rfl,hb1⟩;have HB:=Am hb1;clear hb1)|((with_reducible refine gate_dst (N:=5) rfl ?_);refine alloc_event rfl 139 rfl 152 TK ?_;intro g w2 cs hcs hg hb hbel hsz;have HG:=Am (show w.heap.size≤g by have:=HB.out.size;omega);replace HB:=Am (below_step HB.out hbel);have HK1:=Am hb;have HCS:=Am hcs;clear hcs hg hb hbel hsz)|((with_reducible refine gate_store (t:=139) (p:=5) rfl ?_);refine block_store rfl rfl 139 (.tmp 5) (.tmp 10) rfl rfl (.agg al.toArray) rfl HK1.out (by rw [HCS.out];exact HSZ.out) (by rw [HCS.out];kernel_rfl) HONE.out ?_;intro w3 hb3 hk3 hs3 hB3;replace HB:=Am (hB3 _ _ HB.out HG.out);have HK2:=Am hb3;clear HK1 hb3 hk3 hs3 hB3;have HGW:=Am (show g < w3.heap.size by obtain ⟨h_,_⟩:=Array.getElem?_eq_some_iff.1 HK2.out;exact h_))|(go_at_call 102;refine (HSE.out g _ _ HGW.out (fun j hj k v h_=>HBC.out _ g HK2.out j hj k v h_)).mono ?_;rintro e w4 ⟨rfl,hb4⟩;have HC4:=Am (fun j hj k v h_=>(hb4.cell (p:=⟨g,j * 4+k,none⟩) HGW.out).trans (HBC.out _ g HK2.out j hj k v h_));replace HB:=Am (below_step HB.out hb4);clear hb4 HK2;have cm0:w4.cell? ⟨g,n * 4,none⟩=some (.int .i64 rf):=HC4.out n HN.out 0 _ (by rw [HR.out];rfl);have cm1:w4.cell? ⟨g,n * 4+1,none⟩=some (.int .i64 rt):=HC4.out n HN.out 1 _ (by rw [HR.out];rfl);have cm2:w4.cell? ⟨g,n * 4+2,none⟩=some (.int .i64 ra):=HC4.out n HN.out 2 _ (by rw [HR.out];rfl);have cm3:w4.cell? ⟨g,n * 4+3,none⟩=some (.bool rb):=HC4.out n HN.out 3 _ (by rw [HR.out];rfl);clear HC4)|((with_reducible refine gate_dst (N:=8) rfl ?_);refine alloc_event rfl 138 rfl 4 TK ?_;intro g2 w5 cs2 hcs2 hg2 hb2 hbel2 hsz2;have HG2:=Am (show w.heap.size≤g2 by have:=HB.out.size;omega);replace HB:=Am (below_step HB.out hbel2);clear cm0 cm1 cm2 cm3;have HK3:=Am hb2;have HCS2:=Am hcs2;clear hcs2 hg2 hb2 hbel2 hsz2)|((with_reducible refine gate_store (t:=138) (p:=8) rfl ?_);go_loud (refine block_store rfl rfl 138 (.tmp 8) (.tmp 21) rfl rfl (Value.agg #[Value.int .i64 rf,Value.int .i64 rt,Value.int .i64 ra,Value.bool rb]) rfl HK3.out (by rw [HCS2.out];rfl) (by rw [HCS2.out];kernel_rfl) (mirror_find.row_one _ _ _ _) ?_);go_loud (intro w6 hb6 hk6 hs6 hB6;replace HB:=Am (hB6 _ _ HB.out HG2.out));go_loud (obtain ⟨d0,d1,d2,d3⟩:=mirror_find.row_cells w6 g2 _ _ _ _ hb6;clear HK3 hb6 hk6 hs6 hB6)))
   go_quiet (fail)
   all_goals (try go_wp2)
   go_ret3
   exact ⟨rfl,TB⟩
  have b1:decide (1 < ra)=true:=decide_eq_true c1
  by_cases c2:a0 - rf=0
  ·
   rw [if_neg (fun h_=>h_.2.1 c2)] at hv
   have b2:(a0 - rf==0)=true:=beq_iff_eq.2 c2
   have b2':(a0 - rf !=0)=false:=by rw [bne,b2];rfl
   clear c1 c2
   by_cases c5:Int.tmod ((a0 - rf) / ra) 2=0
   ·
    have b5:(Int.tmod ((a0 - rf) / ra) 2==0)=true:=beq_iff_eq.2 c5
    rw [if_pos c5] at hv
    obtain ⟨rfl,rfl,rfl⟩:(1:Int)=r1∧a0+ra=r2∧rb=r3:=by simpa using hv
    clear hv c5
    go_enter Try.func80,Try.ntmps80
    go_wp2_with (first|(go_at_call 101;refine (HROWS.out _).mono ?_;rintro e w1 ⟨rfl,hb1⟩;have HB:=Am hb1;clear hb1)|((with_reducible refine gate_dst (N:=5) rfl ?_);refine alloc_event rfl 139 rfl 152 TK ?_;intro g w2 cs hcs hg hb hbel hsz;have HG:=Am (show w.heap.size≤g by have:=HB.out.size;omega);replace HB:=Am (below_step HB.out hbel);have HK1:=Am hb;have HCS:=Am hcs;clear hcs hg hb hbel hsz)|((with_reducible refine gate_store (t:=139) (p:=5) rfl ?_);refine block_store rfl rfl 139 (.tmp 5) (.tmp 10) rfl rfl (.agg al.toArray) rfl HK1.out (by rw [HCS.out];exact HSZ.out) (by rw [HCS.out];kernel_rfl) HONE.out ?_;intro w3 hb3 hk3 hs3 hB3;replace HB:=Am (hB3 _ _ HB.out HG.out);have HK2:=Am hb3;clear HK1 hb3 hk3 hs3 hB3;have HGW:=Am (show g < w3.heap.size by obtain ⟨h_,_⟩:=Array.getElem?_eq_some_iff.1 HK2.out;exact h_))|(go_at_call 102;refine (HSE.out g _ _ HGW.out (fun j hj k v h_=>HBC.out _ g HK2.out j hj k v h_)).mono ?_;rintro e w4 ⟨rfl,hb4⟩;have HC4:=Am (fun j hj k v h_=>(hb4.cell (p:=⟨g,j * 4+k,none⟩) HGW.out).trans (HBC.out _ g HK2.out j hj k v h_));replace HB:=Am (below_step HB.out hb4);clear hb4 HK2;have cm0:w4.cell? ⟨g,n * 4,none⟩=some (.int .i64 rf):=HC4.out n HN.out 0 _ (by rw [HR.out];rfl);have cm1:w4.cell? ⟨g,n * 4+1,none⟩=some (.int .i64 rt):=HC4.out n HN.out 1 _ (by rw [HR.out];rfl);have cm2:w4.cell? ⟨g,n * 4+2,none⟩=some (.int .i64 ra):=HC4.out n HN.out 2 _ (by rw [HR.out];rfl);have cm3:w4.cell? ⟨g,n * 4+3,none⟩=some (.bool rb):=HC4.out n HN.out 3 _ (by rw [HR.out];rfl);clear HC4)|((with_reducible refine gate_dst (N:=8) rfl ?_);refine alloc_event rfl 138 rfl 4 TK ?_;intro g2 w5 cs2 hcs2 hg2 hb2 hbel2 hsz2;have HG2:=Am (show w.heap.size≤g2 by have:=HB.out.size;omega);replace HB:=Am (below_step HB.out hbel2);clear cm0 cm1 cm2 cm3;have HK3:=Am hb2;have HCS2:=Am hcs2;clear hcs2 hg2 hb2 hbel2 hsz2)|((with_reducible refine gate_store (t:=138) (p:=8) rfl ?_);go_loud (refine block_store rfl rfl 138 (.tmp 8) (.tmp 21) rfl rfl (Value.agg #[Value.int .i64 rf,Value.int .i64 rt,Value.int .i64 ra,Value.bool rb]) rfl HK3.out (by rw [HCS2.out];rfl) (by rw [HCS2.out];kernel_rfl) (mirror_find.row_one _ _ _ _) ?_);go_loud (intro w6 hb6 hk6 hs6 hB6;replace HB:=Am (hB6 _ _ HB.out HG2.out));go_loud (obtain ⟨d0,d1,d2,d3⟩:=mirror_find.row_cells w6 g2 _ _ _ _ hb6;clear HK3 hb6 hk6 hs6 hB6)))
    go_quiet (fail)
    all_goals (try go_wp2)
    go_ret3
    exact ⟨rfl,TB⟩
   have b5:(Int.tmod ((a0 - rf) / ra) 2==0)=false:=beq_eq_false_iff_ne.2 c5
   rw [if_neg c5] at hv
   obtain ⟨rfl,rfl,rfl⟩:(2:Int)=r1∧a0 - ra=r2∧rb=r3:=by simpa using hv
   clear hv c5
   go_enter Try.func80,Try.ntmps80
   go_wp2_with (first|(go_at_call 101;refine (HROWS.out _).mono ?_;rintro e w1 ⟨rfl,hb1⟩;have HB:=Am hb1;clear hb1)|((with_reducible refine gate_dst (N:=5) rfl ?_);refine alloc_event rfl 139 rfl 152 TK ?_;intro g w2 cs hcs hg hb hbel hsz;have HG:=Am (show w.heap.size≤g by have:=HB.out.size;omega);replace HB:=Am (below_step HB.out hbel);have HK1:=Am hb;have HCS:=Am hcs;clear hcs hg hb hbel hsz)|((with_reducible refine gate_store (t:=139) (p:=5) rfl ?_);refine block_store rfl rfl 139 (.tmp 5) (.tmp 10) rfl rfl (.agg al.toArray) rfl HK1.out (by rw [HCS.out];exact HSZ.out) (by rw [HCS.out];kernel_rfl) HONE.out ?_;intro w3 hb3 hk3 hs3 hB3;replace HB:=Am (hB3 _ _ HB.out HG.out);have HK2:=Am hb3;clear HK1 hb3 hk3 hs3 hB3;have HGW:=Am (show g < w3.heap.size by obtain ⟨h_,_⟩:=Array.getElem?_eq_some_iff.1 HK2.out;exact h_))|(go_at_call 102;refine (HSE.out g _ _ HGW.out (fun j hj k v h_=>HBC.out _ g HK2.out j hj k v h_)).mono ?_;rintro e w4 ⟨rfl,hb4⟩;have HC4:=Am (fun j hj k v h_=>(hb4.cell (p:=⟨g,j * 4+k,none⟩) HGW.out).trans (HBC.out _ g HK2.out j hj k v h_));replace HB:=Am (below_step HB.out hb4);clear hb4 HK2;have cm0:w4.cell? ⟨g,n * 4,none⟩=some (.int .i64 rf):=HC4.out n HN.out 0 _ (by rw [HR.out];rfl);have cm1:w4.cell? ⟨g,n * 4+1,none⟩=some (.int .i64 rt):=HC4.out n HN.out 1 _ (by rw [HR.out];rfl);have cm2:w4.cell? ⟨g,n * 4+2,none⟩=some (.int .i64 ra):=HC4.out n HN.out 2 _ (by rw [HR.out];rfl);have cm3:w4.cell? ⟨g,n * 4+3,none⟩=some (.bool rb):=HC4.out n HN.out 3 _ (by rw [HR.out];rfl);clear HC4)|((with_reducible refine gate_dst (N:=8) rfl ?_);refine alloc_event rfl 138 rfl 4 TK ?_;intro g2 w5 cs2 hcs2 hg2 hb2 hbel2 hsz2;have HG2:=Am (show w.heap.size≤g2 by have:=HB.out.size;omega);replace HB:=Am (below_step HB.out hbel2);clear cm0 cm1 cm2 cm3;have HK3:=Am hb2;have HCS2:=Am hcs2;clear hcs2 hg2 hb2 hbel2 hsz2)|((with_reducible refine gate_store (t:=138) (p:=8) rfl ?_);go_loud (refine block_store rfl rfl 138 (.tmp 8) (.tmp 21) rfl rfl (Value.agg #[Value.int .i64 rf,Value.int .i64 rt,Value.int .i64 ra,Value.bool rb]) rfl HK3.out (by rw [HCS2.out];rfl) (by rw [HCS2.out];kernel_rfl) (mirror_find.row_one _ _ _ _) ?_);go_loud (intro w6 hb6 hk6 hs6 hB6;replace HB:=Am (hB6 _ _ HB.out HG2.out));go_loud (obtain ⟨d0,d1,d2,d3⟩:=mirror_find.row_cells w6 g2 _ _ _ _ hb6;clear HK3 hb6 hk6 hs6 hB6)))
   go_quiet (fail)
   all_goals (try go_wp2)
   go_ret3
   exact ⟨rfl,TB⟩
  have b2:(a0 - rf==0)=false:=beq_eq_false_iff_ne.2 c2
  have b2':(a0 - rf !=0)=true:=by rw [bne,b2];rfl
  by_cases c3:a0=rt
  ·
   rw [if_neg (fun h_=>h_.2.2.1 c3)] at hv
   have b3:(a0==rt)=true:=beq_iff_eq.2 c3
   have b3':(a0 !=rt)=false:=by rw [bne,b3];rfl
   clear c1 c2 c3
   by_cases c5:Int.tmod ((a0 - rf) / ra) 2=0
   ·
    have b5:(Int.tmod ((a0 - rf) / ra) 2==0)=true:=beq_iff_eq.2 c5
    rw [if_pos c5] at hv
    obtain ⟨rfl,rfl,rfl⟩:(1:Int)=r1∧a0+ra=r2∧rb=r3:=by simpa using hv
    clear hv c5
    go_enter Try.func80,Try.ntmps80
    go_wp2_with (first|(go_at_call 101;refine (HROWS.out _).mono ?_;rintro e w1 ⟨rfl,hb1⟩;have HB:=Am hb1;clear hb1)|((with_reducible refine gate_dst (N:=5) rfl ?_);refine alloc_event rfl 139 rfl 152 TK ?_;intro g w2 cs hcs hg hb hbel hsz;have HG:=Am (show w.heap.size≤g by have:=HB.out.size;omega);replace HB:=Am (below_step HB.out hbel);have HK1:=Am hb;have HCS:=Am hcs;clear hcs hg hb hbel hsz)|((with_reducible refine gate_store (t:=139) (p:=5) rfl ?_);refine block_store rfl rfl 139 (.tmp 5) (.tmp 10) rfl rfl (.agg al.toArray) rfl HK1.out (by rw [HCS.out];exact HSZ.out) (by rw [HCS.out];kernel_rfl) HONE.out ?_;intro w3 hb3 hk3 hs3 hB3;replace HB:=Am (hB3 _ _ HB.out HG.out);have HK2:=Am hb3;clear HK1 hb3 hk3 hs3 hB3;have HGW:=Am (show g < w3.heap.size by obtain ⟨h_,_⟩:=Array.getElem?_eq_some_iff.1 HK2.out;exact h_))|(go_at_call 102;refine (HSE.out g _ _ HGW.out (fun j hj k v h_=>HBC.out _ g HK2.out j hj k v h_)).mono ?_;rintro e w4 ⟨rfl,hb4⟩;have HC4:=Am (fun j hj k v h_=>(hb4.cell (p:=⟨g,j * 4+k,none⟩) HGW.out).trans (HBC.out _ g HK2.out j hj k v h_));replace HB:=Am (below_step HB.out hb4);clear hb4 HK2;have cm0:w4.cell? ⟨g,n * 4,none⟩=some (.int .i64 rf):=HC4.out n HN.out 0 _ (by rw [HR.out];rfl);have cm1:w4.cell? ⟨g,n * 4+1,none⟩=some (.int .i64 rt):=HC4.out n HN.out 1 _ (by rw [HR.out];rfl);have cm2:w4.cell? ⟨g,n * 4+2,none⟩=some (.int .i64 ra):=HC4.out n HN.out 2 _ (by rw [HR.out];rfl);have cm3:w4.cell? ⟨g,n * 4+3,none⟩=some (.bool rb):=HC4.out n HN.out 3 _ (by rw [HR.out];rfl);clear HC4)|((with_reducible refine gate_dst (N:=8) rfl ?_);refine alloc_event rfl 138 rfl 4 TK ?_;intro g2 w5 cs2 hcs2 hg2 hb2 hbel2 hsz2;have HG2:=Am (show w.heap.size≤g2 by have:=HB.out.size;omega);replace HB:=Am (below_step HB.out hbel2);clear cm0 cm1 cm2 cm3;have HK3:=Am hb2;have HCS2:=Am hcs2;clear hcs2 hg2 hb2 hbel2 hsz2)|((with_reducible refine gate_store (t:=138) (p:=8) rfl ?_);go_loud (refine block_store rfl rfl 138 (.tmp 8) (.tmp 21) rfl rfl (Value.agg #[Value.int .i64 rf,Value.int .i64 rt,Value.int .i64 ra,Value.bool rb]) rfl HK3.out (by rw [HCS2.out];rfl) (by rw [HCS2.out];kernel_rfl) (mirror_find.row_one _ _ _ _) ?_);go_loud (intro w6 hb6 hk6 hs6 hB6;replace HB:=Am (hB6 _ _ HB.out HG2.out));go_loud (obtain ⟨d0,d1,d2,d3⟩:=mirror_find.row_cells w6 g2 _ _ _ _ hb6;clear HK3 hb6 hk6 hs6 hB6)))
    go_quiet (fail)
    all_goals (try go_wp2)
    go_ret3
    exact ⟨rfl,TB⟩
   have b5:(Int.tmod ((a0 - rf) / ra) 2==0)=false:=beq_eq_false_iff_ne.2 c5
   rw [if_neg c5] at hv
   obtain ⟨rfl,rfl,rfl⟩:(2:Int)=r1∧a0 - ra=r2∧rb=r3:=by simpa using hv
   clear hv c5
   go_enter Try.func80,Try.ntmps80
   go_wp2_with (first|(go_at_call 101;refine (HROWS.out _).mono ?_;rintro e w1 ⟨rfl,hb1⟩;have HB:=Am hb1;clear hb1)|((with_reducible refine gate_dst (N:=5) rfl ?_);refine alloc_event rfl 139 rfl 152 TK ?_;intro g w2 cs hcs hg hb hbel hsz;have HG:=Am (show w.heap.size≤g by have:=HB.out.size;omega);replace HB:=Am (below_step HB.out hbel);have HK1:=Am hb;have HCS:=Am hcs;clear hcs hg hb hbel hsz)|((with_reducible refine gate_store (t:=139) (p:=5) rfl ?_);refine block_store rfl rfl 139 (.tmp 5) (.tmp 10) rfl rfl (.agg al.toArray) rfl HK1.out (by rw [HCS.out];exact HSZ.out) (by rw [HCS.out];kernel_rfl) HONE.out ?_;intro w3 hb3 hk3 hs3 hB3;replace HB:=Am (hB3 _ _ HB.out HG.out);have HK2:=Am hb3;clear HK1 hb3 hk3 hs3 hB3;have HGW:=Am (show g < w3.heap.size by obtain ⟨h_,_⟩:=Array.getElem?_eq_some_iff.1 HK2.out;exact h_))|(go_at_call 102;refine (HSE.out g _ _ HGW.out (fun j hj k v h_=>HBC.out _ g HK2.out j hj k v h_)).mono ?_;rintro e w4 ⟨rfl,hb4⟩;have HC4:=Am (fun j hj k v h_=>(hb4.cell (p:=⟨g,j * 4+k,none⟩) HGW.out).trans (HBC.out _ g HK2.out j hj k v h_));replace HB:=Am (below_step HB.out hb4);clear hb4 HK2;have cm0:w4.cell? ⟨g,n * 4,none⟩=some (.int .i64 rf):=HC4.out n HN.out 0 _ (by rw [HR.out];rfl);have cm1:w4.cell? ⟨g,n * 4+1,none⟩=some (.int .i64 rt):=HC4.out n HN.out 1 _ (by rw [HR.out];rfl);have cm2:w4.cell? ⟨g,n * 4+2,none⟩=some (.int .i64 ra):=HC4.out n HN.out 2 _ (by rw [HR.out];rfl);have cm3:w4.cell? ⟨g,n * 4+3,none⟩=some (.bool rb):=HC4.out n HN.out 3 _ (by rw [HR.out];rfl);clear HC4)|((with_reducible refine gate_dst (N:=8) rfl ?_);refine alloc_event rfl 138 rfl 4 TK ?_;intro g2 w5 cs2 hcs2 hg2 hb2 hbel2 hsz2;have HG2:=Am (show w.heap.size≤g2 by have:=HB.out.size;omega);replace HB:=Am (below_step HB.out hbel2);clear cm0 cm1 cm2 cm3;have HK3:=Am hb2;have HCS2:=Am hcs2;clear hcs2 hg2 hb2 hbel2 hsz2)|((with_reducible refine gate_store (t:=138) (p:=8) rfl ?_);go_loud (refine block_store rfl rfl 138 (.tmp 8) (.tmp 21) rfl rfl (Value.agg #[Value.int .i64 rf,Value.int .i64 rt,Value.int .i64 ra,Value.bool rb]) rfl HK3.out (by rw [HCS2.out];rfl) (by rw [HCS2.out];kernel_rfl) (mirror_find.row_one _ _ _ _) ?_);go_loud (intro w6 hb6 hk6 hs6 hB6;replace HB:=Am (hB6 _ _ HB.out HG2.out));go_loud (obtain ⟨d0,d1,d2,d3⟩:=mirror_find.row_cells w6 g2 _ _ _ _ hb6;clear HK3 hb6 hk6 hs6 hB6)))
   go_quiet (fail)
   all_goals (try go_wp2)
   go_ret3
   exact ⟨rfl,TB⟩
  have b3:(a0==rt)=false:=beq_eq_false_iff_ne.2 c3
  have b3':(a0 !=rt)=true:=by rw [bne,b3];rfl
  by_cases c4:rt - rf=ra
  ·
   rw [if_pos ⟨c1,c2,c3,c4⟩] at hv
   have b4:(rt - rf==ra)=true:=beq_iff_eq.2 c4
   obtain ⟨rfl,rfl,rfl⟩:(0:Int)=r1∧(0:Int)=r2∧false=r3:=by simpa using hv
   clear hv c1 c2 c3 c4
   go_enter Try.func80,Try.ntmps80
   go_wp2_with (first|(go_at_call 101;refine (HROWS.out _).mono ?_;rintro e w1 ⟨rfl,hb1⟩;have HB:=Am hb1;clear hb1)|((with_reducible refine gate_dst (N:=5) rfl ?_);refine alloc_event rfl 139 rfl 152 TK ?_;intro g w2 cs hcs hg hb hbel hsz;have HG:=Am (show w.heap.size≤g by have:=HB.out.size;omega);replace HB:=Am (below_step HB.out hbel);have HK1:=Am hb;have HCS:=Am hcs;clear hcs hg hb hbel hsz)|((with_reducible refine gate_store (t:=139) (p:=5) rfl ?_);refine block_store rfl rfl 139 (.tmp 5) (.tmp 10) rfl rfl (.agg al.toArray) rfl HK1.out (by rw [HCS.out];exact HSZ.out) (by rw [HCS.out];kernel_rfl) HONE.out ?_;intro w3 hb3 hk3 hs3 hB3;replace HB:=Am (hB3 _ _ HB.out HG.out);have HK2:=Am hb3;clear HK1 hb3 hk3 hs3 hB3;have HGW:=Am (show g < w3.heap.size by obtain ⟨h_,_⟩:=Array.getElem?_eq_some_iff.1 HK2.out;exact h_))|(go_at_call 102;refine (HSE.out g _ _ HGW.out (fun j hj k v h_=>HBC.out _ g HK2.out j hj k v h_)).mono ?_;rintro e w4 ⟨rfl,hb4⟩;have HC4:=Am (fun j hj k v h_=>(hb4.cell (p:=⟨g,j * 4+k,none⟩) HGW.out).trans (HBC.out _ g HK2.out j hj k v h_));replace HB:=Am (below_step HB.out hb4);clear hb4 HK2;have cm0:w4.cell? ⟨g,n * 4,none⟩=some (.int .i64 rf):=HC4.out n HN.out 0 _ (by rw [HR.out];rfl);have cm1:w4.cell? ⟨g,n * 4+1,none⟩=some (.int .i64 rt):=HC4.out n HN.out 1 _ (by rw [HR.out];rfl);have cm2:w4.cell? ⟨g,n * 4+2,none⟩=some (.int .i64 ra):=HC4.out n HN.out 2 _ (by rw [HR.out];rfl);have cm3:w4.cell? ⟨g,n * 4+3,none⟩=some (.bool rb):=HC4.out n HN.out 3 _ (by rw [HR.out];rfl);clear HC4)|((with_reducible refine gate_dst (N:=8) rfl ?_);refine alloc_event rfl 138 rfl 4 TK ?_;intro g2 w5 cs2 hcs2 hg2 hb2 hbel2 hsz2;have HG2:=Am (show w.heap.size≤g2 by have:=HB.out.size;omega);replace HB:=Am (below_step HB.out hbel2);clear cm0 cm1 cm2 cm3;have HK3:=Am hb2;have HCS2:=Am hcs2;clear hcs2 hg2 hb2 hbel2 hsz2)|((with_reducible refine gate_store (t:=138) (p:=8) rfl ?_);go_loud (refine block_store rfl rfl 138 (.tmp 8) (.tmp 21) rfl rfl (Value.agg #[Value.int .i64 rf,Value.int .i64 rt,Value.int .i64 ra,Value.bool rb]) rfl HK3.out (by rw [HCS2.out];rfl) (by rw [HCS2.out];kernel_rfl) (mirror_find.row_one _ _ _ _) ?_);go_loud (intro w6 hb6 hk6 hs6 hB6;replace HB:=Am (hB6 _ _ HB.out HG2.out));go_loud (obtain ⟨d0,d1,d2,d3⟩:=mirror_find.row_cells w6 g2 _ _ _ _ hb6;clear HK3 hb6 hk6 hs6 hB6)))
   go_ret3
   exact ⟨rfl,TB⟩
  rw [if_neg (fun h_=>c4 h_.2.2.2)] at hv
  have b4:(rt - rf==ra)=false:=beq_eq_false_iff_ne.2 c4
  clear c1 c2 c3 c4
  by_cases c5:Int.tmod ((a0 - rf) / ra) 2=0
  ·
   have b5:(Int.tmod ((a0 - rf) / ra) 2==0)=true:=beq_iff_eq.2 c5
   rw [if_pos c5] at hv
   obtain ⟨rfl,rfl,rfl⟩:(1:Int)=r1∧a0+ra=r2∧rb=r3:=by simpa using hv
   clear hv c5
   go_enter Try.func80,Try.ntmps80
   go_wp2_with (first|(go_at_call 101;refine (HROWS.out _).mono ?_;rintro e w1 ⟨rfl,hb1⟩;have HB:=Am hb1;clear hb1)|((with_reducible refine gate_dst (N:=5) rfl ?_);refine alloc_event rfl 139 rfl 152 TK ?_;intro g w2 cs hcs hg hb hbel hsz;have HG:=Am (show w.heap.size≤g by have:=HB.out.size;omega);replace HB:=Am (below_step HB.out hbel);have HK1:=Am hb;have HCS:=Am hcs;clear hcs hg hb hbel hsz)|((with_reducible refine gate_store (t:=139) (p:=5) rfl ?_);refine block_store rfl rfl 139 (.tmp 5) (.tmp 10) rfl rfl (.agg al.toArray) rfl HK1.out (by rw [HCS.out];exact HSZ.out) (by rw [HCS.out];kernel_rfl) HONE.out ?_;intro w3 hb3 hk3 hs3 hB3;replace HB:=Am (hB3 _ _ HB.out HG.out);have HK2:=Am hb3;clear HK1 hb3 hk3 hs3 hB3;have HGW:=Am (show g < w3.heap.size by obtain ⟨h_,_⟩:=Array.getElem?_eq_some_iff.1 HK2.out;exact h_))|(go_at_call 102;refine (HSE.out g _ _ HGW.out (fun j hj k v h_=>HBC.out _ g HK2.out j hj k v h_)).mono ?_;rintro e w4 ⟨rfl,hb4⟩;have HC4:=Am (fun j hj k v h_=>(hb4.cell (p:=⟨g,j * 4+k,none⟩) HGW.out).trans (HBC.out _ g HK2.out j hj k v h_));replace HB:=Am (below_step HB.out hb4);clear hb4 HK2;have cm0:w4.cell? ⟨g,n * 4,none⟩=some (.int .i64 rf):=HC4.out n HN.out 0 _ (by rw [HR.out];rfl);have cm1:w4.cell? ⟨g,n * 4+1,none⟩=some (.int .i64 rt):=HC4.out n HN.out 1 _ (by rw [HR.out];rfl);have cm2:w4.cell? ⟨g,n * 4+2,none⟩=some (.int .i64 ra):=HC4.out n HN.out 2 _ (by rw [HR.out];rfl);have cm3:w4.cell? ⟨g,n * 4+3,none⟩=some (.bool rb):=HC4.out n HN.out 3 _ (by rw [HR.out];rfl);clear HC4)|((with_reducible refine gate_dst (N:=8) rfl ?_);refine alloc_event rfl 138 rfl 4 TK ?_;intro g2 w5 cs2 hcs2 hg2 hb2 hbel2 hsz2;have HG2:=Am (show w.heap.size≤g2 by have:=HB.out.size;omega);replace HB:=Am (below_step HB.out hbel2);clear cm0 cm1 cm2 cm3;have HK3:=Am hb2;have HCS2:=Am hcs2;clear hcs2 hg2 hb2 hbel2 hsz2)|((with_reducible refine gate_store (t:=138) (p:=8) rfl ?_);go_loud (refine block_store rfl rfl 138 (.tmp 8) (.tmp 21) rfl rfl (Value.agg #[Value.int .i64 rf,Value.int .i64 rt,Value.int .i64 ra,Value.bool rb]) rfl HK3.out (by rw [HCS2.out];rfl) (by rw [HCS2.out];kernel_rfl) (mirror_find.row_one _ _ _ _) ?_);go_loud (intro w6 hb6 hk6 hs6 hB6;replace HB:=Am (hB6 _ _ HB.out HG2.out));go_loud (obtain ⟨d0,d1,d2,d3⟩:=mirror_find.row_cells w6 g2 _ _ _ _ hb6;clear HK3 hb6 hk6 hs6 hB6)))
   go_quiet (fail)
   all_goals (try go_wp2)
   go_ret3
   exact ⟨rfl,TB⟩
  have b5:(Int.tmod ((a0 - rf) / ra) 2==0)=false:=beq_eq_false_iff_ne.2 c5
  rw [if_neg c5] at hv
  obtain ⟨rfl,rfl,rfl⟩:(2:Int)=r1∧a0 - ra=r2∧rb=r3:=by simpa using hv
  clear hv c5
  go_enter Try.func80,Try.ntmps80
  go_wp2_with (first|(go_at_call 101;refine (HROWS.out _).mono ?_;rintro e w1 ⟨rfl,hb1⟩;have HB:=Am hb1;clear hb1)|((with_reducible refine gate_dst (N:=5) rfl ?_);refine alloc_event rfl 139 rfl 152 TK ?_;intro g w2 cs hcs hg hb hbel hsz;have HG:=Am (show w.heap.size≤g by have:=HB.out.size;omega);replace HB:=Am (below_step HB.out hbel);have HK1:=Am hb;have HCS:=Am hcs;clear hcs hg hb hbel hsz)|((with_reducible refine gate_store (t:=139) (p:=5) rfl ?_);refine block_store rfl rfl 139 (.tmp 5) (.tmp 10) rfl rfl (.agg al.toArray) rfl HK1.out (by rw [HCS.out];exact HSZ.out) (by rw [HCS.out];kernel_rfl) HONE.out ?_;intro w3 hb3 hk3 hs3 hB3;replace HB:=Am (hB3 _ _ HB.out HG.out);have HK2:=Am hb3;clear HK1 hb3 hk3 hs3 hB3;have HGW:=Am (show g < w3.heap.size by obtain ⟨h_,_⟩:=Array.getElem?_eq_some_iff.1 HK2.out;exact h_))|(go_at_call 102;refine (HSE.out g _ _ HGW.out (fun j hj k v h_=>HBC.out _ g HK2.out j hj k v h_)).mono ?_;rintro e w4 ⟨rfl,hb4⟩;have HC4:=Am (fun j hj k v h_=>(hb4.cell (p:=⟨g,j * 4+k,none⟩) HGW.out).trans (HBC.out _ g HK2.out j hj k v h_));replace HB:=Am (below_step HB.out hb4);clear hb4 HK2;have cm0:w4.cell? ⟨g,n * 4,none⟩=some (.int .i64 rf):=HC4.out n HN.out 0 _ (by rw [HR.out];rfl);have cm1:w4.cell? ⟨g,n * 4+1,none⟩=some (.int .i64 rt):=HC4.out n HN.out 1 _ (by rw [HR.out];rfl);have cm2:w4.cell? ⟨g,n * 4+2,none⟩=some (.int .i64 ra):=HC4.out n HN.out 2 _ (by rw [HR.out];rfl);have cm3:w4.cell? ⟨g,n * 4+3,none⟩=some (.bool rb):=HC4.out n HN.out 3 _ (by rw [HR.out];rfl);clear HC4)|((with_reducible refine gate_dst (N:=8) rfl ?_);refine alloc_event rfl 138 rfl 4 TK ?_;intro g2 w5 cs2 hcs2 hg2 hb2 hbel2 hsz2;have HG2:=Am (show w.heap.size≤g2 by have:=HB.out.size;omega);replace HB:=Am (below_step HB.out hbel2);clear cm0 cm1 cm2 cm3;have HK3:=Am hb2;have HCS2:=Am hcs2;clear hcs2 hg2 hb2 hbel2 hsz2)|((with_reducible refine gate_store (t:=138) (p:=8) rfl ?_);go_loud (refine block_store rfl rfl 138 (.tmp 8) (.tmp 21) rfl rfl (Value.agg #[Value.int .i64 rf,Value.int .i64 rt,Value.int .i64 ra,Value.bool rb]) rfl HK3.out (by rw [HCS2.out];rfl) (by rw [HCS2.out];kernel_rfl) (mirror_find.row_one _ _ _ _) ?_);go_loud (intro w6 hb6 hk6 hs6 hB6;replace HB:=Am (hB6 _ _ HB.out HG2.out));go_loud (obtain ⟨d0,d1,d2,d3⟩:=mirror_find.row_cells w6 g2 _ _ _ _ hb6;clear HK3 hb6 hk6 hs6 hB6)))
  go_quiet (fail)
  all_goals (try go_wp2)
  go_ret3
  exact ⟨rfl,TB⟩
 ·
  have hd:decide (n < 38∧(R n).f≤a0)=false:=decide_eq_false hf
  rw [hd] at hse
  have HSE:=Am hse
  rw [if_neg hf] at hv
  obtain ⟨rfl,rfl,rfl⟩:(0:Int)=r1∧(0:Int)=r2∧false=r3:=by simpa using hv
  clear hse hd hf hv hfa hhe
  go_enter Try.func80,Try.ntmps80
  go_wp2_with (first|(go_at_call 101;refine (HROWS.out _).mono ?_;rintro e w1 ⟨rfl,hb1⟩;have HB:=Am hb1;clear hb1)|((with_reducible refine gate_dst (N:=5) rfl ?_);refine alloc_event rfl 139 rfl 152 TK ?_;intro g w2 cs hcs hg hb hbel hsz;have HG:=Am (show w.heap.size≤g by have:=HB.out.size;omega);replace HB:=Am (below_step HB.out hbel);have HK1:=Am hb;have HCS:=Am hcs;clear hcs hg hb hbel hsz)|((with_reducible refine gate_store (t:=139) (p:=5) rfl ?_);refine block_store rfl rfl 139 (.tmp 5) (.tmp 10) rfl rfl (.agg al.toArray) rfl HK1.out (by rw [HCS.out];exact HSZ.out) (by rw [HCS.out];kernel_rfl) HONE.out ?_;intro w3 hb3 hk3 hs3 hB3;replace HB:=Am (hB3 _ _ HB.out HG.out);have HK2:=Am hb3;clear HK1 hb3 hk3 hs3 hB3;have HGW:=Am (show g < w3.heap.size by obtain ⟨h_,_⟩:=Array.getElem?_eq_some_iff.1 HK2.out;exact h_))|(go_at_call 102;refine (HSE.out g _ _ HGW.out (fun j hj k v h_=>HBC.out _ g HK2.out j hj k v h_)).mono ?_;rintro e w4 ⟨rfl,hb4⟩;have HC4:=Am (fun j hj k v h_=>(hb4.cell (p:=⟨g,j * 4+k,none⟩) HGW.out).trans (HBC.out _ g HK2.out j hj k v h_));replace HB:=Am (below_step HB.out hb4);clear hb4 HK2))
  go_ret3
  exact ⟨rfl,HB.out⟩
end
def mirror_Glyph.f (a0:Int):Option (Int):=(mirror_find.f a0).bind fun bt181=>(if bt181.1 > 0 then (some bt181.2.1) else (some a0))
set_option maxHeartbeats 8000000 in
theorem mirror_Glyph.calls (a0:Int) (r:Int) (w:World) (h:mirror_Glyph.f a0=some r) :
  Calls Try.prog 52 #[.int .i64 a0] w fun e w'=>e= .returned (.int .i64 r)∧Below w.heap.size w w':=by
 have HB:=Am (Below.refl w.heap.size w)
 have H:((mirror_find.f a0).bind fun bt181=>(if bt181.1 > 0 then (some bt181.2.1) else (some a0)))=some r:=h
 clear h
 replace H:=Option.bind_eq_some_iff.mp H
 obtain ⟨⟨t181,t182,t183⟩,A20,H⟩:=H
 try dsimp only at H
 have A2:=Am A20
 clear A20
 by_cases c3:t181 > 0
 ·
  rw [if_pos c3] at H
  have c3b0:decide (0 < t181)=true:=decide_eq_true c3
  clear c3
  obtain rfl:=Option.some.inj H
  go_enter Try.func52,Try.ntmps52
  go_wp2_with (first|((with_reducible refine gate_callee (f:=80) rfl ?_);refine goesL_ (some 8) rfl rfl Try.func80 TK rfl #[.int .i64 a0] rfl TM ?_;(with_reducible refine (mirror_find.calls a0 t181 t182 t183 _ A2.out).mono ?_);rintro e w4 ⟨rfl,hb⟩;refine ⟨_,rfl,?_⟩;replace HB:=Am (below_step TB hb);(try clear hb);(try clear hb2);(try clear hk);(try clear hi)))
  go_ret
  exact ⟨TE,TB⟩
 rw [if_neg c3] at H
 have c3b0:decide (0 < t181)=false:=decide_eq_false c3
 clear c3
 obtain rfl:=Option.some.inj H
 go_enter Try.func52,Try.ntmps52
 go_wp2_with (first|((with_reducible refine gate_callee (f:=80) rfl ?_);refine goesL_ (some 8) rfl rfl Try.func80 TK rfl #[.int .i64 a0] rfl TM ?_;(with_reducible refine (mirror_find.calls a0 t181 t182 t183 _ A2.out).mono ?_);rintro e w5 ⟨rfl,hb⟩;refine ⟨_,rfl,?_⟩;replace HB:=Am (below_step TB hb);(try clear hb);(try clear hb2);(try clear hk);(try clear hi)))
 go_ret
 exact ⟨TE,TB⟩
def bidi_Shown.f (a0:Int) (a1:Int):Option (Int):=if (Go.bits .and .i64 a1 1)=1 then ((mirror_Glyph.f a0).bind fun t184=>(some t184)) else (some a0)
set_option maxHeartbeats 8000000 in
theorem bidi_Shown.calls (a0:Int) (a1:Int) (r:Int) (w:World) (h:bidi_Shown.f a0 a1=some r) :
  Calls Try.prog 34 #[.int .i64 a0,.int .i64 a1] w fun e w'=>e= .returned (.int .i64 r)∧Below w.heap.size w w':=by
 have HB:=Am (Below.refl w.heap.size w)
 have H:(if (Go.bits .and .i64 a1 1)=1 then ((mirror_Glyph.f a0).bind fun t184=>(some t184)) else (some a0))=some r:=h
 clear h
 by_cases c3:(Go.bits .and .i64 a1 1)=1
 rotate_left
 ·
  rw [if_neg c3] at H
  have c3b0:((Go.bits .and .i64 a1 1)==1)=false:=beq_eq_false_iff_ne.mpr c3
  have c3b1:((Go.bits .and .i64 a1 1) !=1)=true:=bne_iff_ne.mpr c3
  obtain rfl:=Option.some.inj H
  go_enter Try.func34,Try.ntmps34
  go_wp2
  go_ret
  exact ⟨TE,TB⟩
 rw [if_pos c3] at H
 have c3b0:((Go.bits .and .i64 a1 1)==1)=true:=beq_iff_eq.mpr c3
 have c3b1:((Go.bits .and .i64 a1 1) !=1)=false:=bne_eq_false_iff_eq.mpr c3
 clear c3
 obtain ⟨t184,A40,H⟩:=Option.bind_eq_some_iff.mp H
 try dsimp only at H
 have A4:=Am A40
 clear A40
 obtain rfl:=Option.some.inj H
 go_enter Try.func34,Try.ntmps34
 go_wp2_with (first|((with_reducible refine gate_callee (f:=52) rfl ?_);refine goesL_ (some 9) rfl rfl Try.func52 TK rfl #[.int .i64 a0] rfl TM ?_;(with_reducible refine (mirror_Glyph.calls a0 t184 _ A4.out).mono ?_);rintro e w5 ⟨rfl,hb⟩;refine ⟨_,rfl,?_⟩;replace HB:=Am (below_step TB hb);(try clear hb);(try clear hb2);(try clear hk);(try clear hi)))
 go_ret
 exact ⟨TE,TB⟩
end Go.Proofs.Yteoaegigjlhamaa.PC19
