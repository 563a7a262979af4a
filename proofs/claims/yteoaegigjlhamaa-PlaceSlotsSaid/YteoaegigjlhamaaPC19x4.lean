/- Chapter 19, printed: what the functions compute, and proofs that they do. -/
import Derived.Test.YteoaegigjlhamaaPC19x0
namespace Go.Proofs.Yteoaegigjlhamaa.PC19
open Go.RowKit Go.Proofs.YteoaegigjlhamaaW.PrintWords Go.Proofs.YteoaegigjlhamaaW.PrintLast Go.Proofs.YteoaegigjlhamaaW.PrintMore
attribute [local go_sem] max2_int min2_int max_two min_two max_three min_three max_four min_four
set_option linter.unusedVariables false
set_option maxRecDepth 100000
set_option linter.unusedSimpArgs false
def place_has.f (a0_0:Int) (a0_1:Int) (a0_2:Int) (a0_3:Int) (a0_4:Int) (a1:Int):Option (Bool):=if a0_0≥0 then (if a0_0≤a0_2 then (if a0_2≤a0_1 then (some (decide (a0_1≤a1))) else (some false)) else (some false)) else (some false)
set_option maxHeartbeats 8000000 in
theorem place_has.calls (a0_0:Int) (a0_1:Int) (a0_2:Int) (a0_3:Int) (a0_4:Int) (a1:Int) (r:Bool) (w:World) (h:place_has.f a0_0 a0_1 a0_2 a0_3 a0_4 a1=some r) :
  Calls Try.prog 30 #[.agg #[.int .i64 a0_0,.int .i64 a0_1,.int .i64 a0_2,.int .i64 a0_3,.int .i64 a0_4],.int .i64 a1] w fun e w'=>e= .returned (.bool r)∧Below w.heap.size w w':=by
 have hu25:=Try.underlying25
 have HB:=Am (Below.refl w.heap.size w)
 have H:(if a0_0≥0 then (if a0_0≤a0_2 then (if a0_2≤a0_1 then (some (decide (a0_1≤a1))) else (some false)) else (some false)) else (some false))=some r:=h
 clear h
 by_cases c3:a0_0≥0
 rotate_left
 ·
  rw [if_neg c3] at H
  have c3b0:decide (0≤a0_0)=false:=decide_eq_false c3
  clear c3
  obtain rfl:=Option.some.inj H
  go_enter Try.func30,Try.ntmps30
  go_wp2_with (first|((with_reducible refine gate_dst (N:=2) rfl ?_);refine box_event ?hg (N:=2) ?hd (cs:= #[.int .i64 a0_0,.int .i64 a0_1,.int .i64 a0_2,.int .i64 a0_3,.int .i64 a0_4]) (t:=25) ?hr ?_;(case hd=>rfl);(case hg=>rfl);(case hr=>exact TG);intro gb118 hg w12 hbox hb;have BK118:=Am (hbox);have GW118:=Am (gwS hg);have GE118:=Am (gwS hg);replace HB:=Am (below_step TB hb);clear hb hbox hg;obtain ⟨hcz13_0,hcz13_1,hcz13_2,hcz13_3,hcz13_4⟩:=blkC5 BK118.out;obtain ⟨hfz13_0,hfz13_1,hfz13_2,hfz13_3,hfz13_4⟩:=blkF5 BK118.out))
  go_ret
  exact ⟨TE,TB⟩
 rw [if_pos c3] at H
 have c3b0:decide (0≤a0_0)=true:=decide_eq_true c3
 clear c3
 by_cases c4:a0_0≤a0_2
 rotate_left
 ·
  rw [if_neg c4] at H
  have c4b0:decide (a0_0≤a0_2)=false:=decide_eq_false c4
  clear c4
  obtain rfl:=Option.some.inj H
  go_enter Try.func30,Try.ntmps30
  go_wp2_with (first|((with_reducible refine gate_dst (N:=2) rfl ?_);refine box_event ?hg (N:=2) ?hd (cs:= #[.int .i64 a0_0,.int .i64 a0_1,.int .i64 a0_2,.int .i64 a0_3,.int .i64 a0_4]) (t:=25) ?hr ?_;(case hd=>rfl);(case hg=>rfl);(case hr=>exact TG);intro gb118 hg w10 hbox hb;have BK118:=Am (hbox);have GW118:=Am (gwS hg);have GE118:=Am (gwS hg);replace HB:=Am (below_step TB hb);clear hb hbox hg;obtain ⟨hcz11_0,hcz11_1,hcz11_2,hcz11_3,hcz11_4⟩:=blkC5 BK118.out;obtain ⟨hfz11_0,hfz11_1,hfz11_2,hfz11_3,hfz11_4⟩:=blkF5 BK118.out))
  go_ret
  exact ⟨TE,TB⟩
 rw [if_pos c4] at H
 have c4b0:decide (a0_0≤a0_2)=true:=decide_eq_true c4
 clear c4
 by_cases c5:a0_2≤a0_1
 ·
  rw [if_pos c5] at H
  have c5b0:decide (a0_2≤a0_1)=true:=decide_eq_true c5
  clear c5
  obtain rfl:=Option.some.inj H
  go_enter Try.func30,Try.ntmps30
  go_wp2_with (first|((with_reducible refine gate_dst (N:=2) rfl ?_);refine box_event ?hg (N:=2) ?hd (cs:= #[.int .i64 a0_0,.int .i64 a0_1,.int .i64 a0_2,.int .i64 a0_3,.int .i64 a0_4]) (t:=25) ?hr ?_;(case hd=>rfl);(case hg=>rfl);(case hr=>exact TG);intro gb118 hg w6 hbox hb;have BK118:=Am (hbox);have GW118:=Am (gwS hg);have GE118:=Am (gwS hg);replace HB:=Am (below_step TB hb);clear hb hbox hg;obtain ⟨hcz7_0,hcz7_1,hcz7_2,hcz7_3,hcz7_4⟩:=blkC5 BK118.out;obtain ⟨hfz7_0,hfz7_1,hfz7_2,hfz7_3,hfz7_4⟩:=blkF5 BK118.out))
  go_ret
  exact ⟨TE,TB⟩
 rw [if_neg c5] at H
 have c5b0:decide (a0_2≤a0_1)=false:=decide_eq_false c5
 clear c5
 obtain rfl:=Option.some.inj H
 go_enter Try.func30,Try.ntmps30
 go_wp2_with (first|((with_reducible refine gate_dst (N:=2) rfl ?_);refine box_event ?hg (N:=2) ?hd (cs:= #[.int .i64 a0_0,.int .i64 a0_1,.int .i64 a0_2,.int .i64 a0_3,.int .i64 a0_4]) (t:=25) ?hr ?_;(case hd=>rfl);(case hg=>rfl);(case hr=>exact TG);intro gb118 hg w8 hbox hb;have BK118:=Am (hbox);have GW118:=Am (gwS hg);have GE118:=Am (gwS hg);replace HB:=Am (below_step TB hb);clear hb hbox hg;obtain ⟨hcz9_0,hcz9_1,hcz9_2,hcz9_3,hcz9_4⟩:=blkC5 BK118.out;obtain ⟨hfz9_0,hfz9_1,hfz9_2,hfz9_3,hfz9_4⟩:=blkF5 BK118.out))
 go_ret
 exact ⟨TE,TB⟩
def slices_Clone_int_int.f (l0:List Int):Option (List Int):=if l0.length < 1000000 then some l0 else none
section
open Go.Proofs.YteoaegigjlhamaaH
theorem slices_Clone_int_int.nil1 (n c:Nat) (W:World):(binOp .eql 23 (.slice none n c) (.slice none 0 0)).run Try.prog W= .ok (.bool true) W:=by kernel_rfl
theorem slices_Clone_int_int.nil2 (a:Addr) (n c:Nat) (W:World):(binOp .eql 23 (.slice (some a) n c) (.slice none 0 0)).run Try.prog W= .ok (.bool false) W:=by kernel_rfl
set_option maxHeartbeats 2000000 in
theorem slices_Clone_int_int.calls (A0:Option Addr) (c0:Nat) (l0:List Int) (r:List Int) (w:World) (hr0:Kd.C (Kd.int .i64) w A0 l0.length l0) (hc0:l0.length≤c0) (h:slices_Clone_int_int.f l0=some r) :
  Calls Try.prog 47 #[.slice A0 l0.length c0] w fun e w'=> ∃ v0_:Value,e= .returned v0_∧Kd.R (Kd.int .i64) 3 w' w.heap.size (fun _=>True) v0_ r∧Below w.heap.size w w':=by
 unfold slices_Clone_int_int.f at h
 split at h
 rotate_left
 ·
  cases h
 rename_i hl
 obtain rfl:=Option.some.inj h
 have HR0:=Am hr0
 have HB:=Am (Below.refl w.heap.size w)
 clear hr0 h
 have hq1:=slices_Clone_int_int.nil1
 have hq2:=slices_Clone_int_int.nil2
 cases A0 with
 | none =>
  have hz:l0=[]:=by
   rcases Nat.eq_zero_or_pos l0.length with h0|h0
   ·
    exact List.eq_nil_of_length_eq_zero h0
   ·
    obtain ⟨ad,e,_⟩:=HR0.out.2.2 h0
    cases e
  subst hz
  go_enter Try.func47,Try.ntmps47
  go_wp2
  go_ret
  exact ⟨_,rfl,Kd.R_nil _ _ _ _ _,HB.out⟩
 | some ad =>
  go_enter Try.func47,Try.ntmps47
  go_wp2_with (first|((with_reducible refine gate_dst (N:=5) rfl ?_);refine Kd.R_lit (Kd.int .i64) (w0:=w) w.heap.size 3 ?hg (N:=5) ?hd (xs:=([]:List Int)) (inner:=[]) (ok:=fun _=>True) (okp:=fun _=>True) ?hr ?hp (fun _ hk=>hk) trivial HB.out HB.out.size (by simp) ?_;(case hd=>rfl);(case hg=>rfl);(case hr=>exact TG);(case hp=>exact (Reps.none _ _));intro v0 w0 ho0 hb0_ hg0 hnew0;have HE0:=Am ho0;have HB0:=Am hb0_;clear ho0 hb0_ hg0 hnew0)|((with_reducible refine gate_builtin (b:= .append) (xs:= #[.tmp 5,.tmp 6]) rfl ?_);at_builtin;refine Kd.R_append_rows (Kd.int .i64) (w0:=w) w.heap.size rfl (.tmp 5) (.tmp 6) 23 3 (.int .i64 0) 8 rfl Try.underlying23 info3 rfl (by decide) (by omega) v0 [] l0 _ _ _ (fun _=>True) (fun _=>False) rfl rfl HE0.out (Kd.C_below HR0.out HB0.out) (fun _ _ h=>h) (fun _ h=>h.elim) (fun _ _=>trivial) HB0.out HB0.out.size (by simp;omega) ?_;intro v_ w1 ho hb1 hg1 hat;rw [List.nil_append] at ho;have n0_:=Am ho;have n1_:=Am hb1;clear ho hb1 hg1 hat))
  go_ret
  exact ⟨_,rfl,n0_.out,n1_.out⟩
end
def class_spans.L:List S117:=[(⟨0,8,9⟩:S117),(⟨9,9,11⟩:S117),(⟨10,10,10⟩:S117),(⟨11,11,11⟩:S117),(⟨12,12,12⟩:S117),(⟨13,13,10⟩:S117),(⟨14,27,9⟩:S117),(⟨28,30,10⟩:S117),(⟨31,31,11⟩:S117),(⟨32,32,12⟩:S117),(⟨33,34,13⟩:S117),(⟨35,37,5⟩:S117),(⟨38,42,13⟩:S117),(⟨43,43,4⟩:S117),(⟨44,44,7⟩:S117),(⟨45,45,4⟩:S117),(⟨46,47,7⟩:S117),(⟨48,57,3⟩:S117),(⟨58,58,7⟩:S117),(⟨59,64,13⟩:S117),(⟨91,96,13⟩:S117),(⟨123,126,13⟩:S117),(⟨127,132,9⟩:S117),(⟨133,133,10⟩:S117),(⟨134,159,9⟩:S117),(⟨160,160,7⟩:S117),(⟨161,161,13⟩:S117),(⟨162,165,5⟩:S117),(⟨166,169,13⟩:S117),(⟨171,172,13⟩:S117),(⟨173,173,9⟩:S117),(⟨174,175,13⟩:S117),(⟨176,177,5⟩:S117),(⟨178,179,3⟩:S117),(⟨180,180,13⟩:S117),(⟨182,184,13⟩:S117),(⟨185,185,3⟩:S117),(⟨187,191,13⟩:S117),(⟨215,215,13⟩:S117),(⟨247,247,13⟩:S117),(⟨768,879,8⟩:S117),(⟨1155,1161,8⟩:S117),(⟨1423,1423,5⟩:S117),(⟨1424,1424,1⟩:S117),(⟨1425,1469,8⟩:S117),(⟨1470,1470,1⟩:S117),(⟨1471,1471,8⟩:S117),(⟨1472,1472,1⟩:S117),(⟨1473,1474,8⟩:S117),(⟨1475,1475,1⟩:S117),(⟨1476,1477,8⟩:S117),(⟨1478,1478,1⟩:S117),(⟨1479,1479,8⟩:S117),(⟨1480,1535,1⟩:S117),(⟨1536,1541,6⟩:S117),(⟨1542,1543,13⟩:S117),(⟨1544,1544,2⟩:S117),(⟨1545,1546,5⟩:S117),(⟨1547,1547,2⟩:S117),(⟨1548,1548,7⟩:S117),(⟨1549,1549,2⟩:S117),(⟨1550,1551,13⟩:S117),(⟨1552,1562,8⟩:S117),(⟨1563,1610,2⟩:S117),(⟨1611,1631,8⟩:S117),(⟨1632,1641,6⟩:S117),(⟨1642,1642,5⟩:S117),(⟨1643,1644,6⟩:S117),(⟨1645,1647,2⟩:S117),(⟨1648,1648,8⟩:S117),(⟨1649,1749,2⟩:S117),(⟨1750,1756,8⟩:S117),(⟨1757,1757,6⟩:S117),(⟨1758,1758,13⟩:S117),(⟨1759,1764,8⟩:S117),(⟨1765,1766,2⟩:S117),(⟨1767,1768,8⟩:S117),(⟨1769,1769,13⟩:S117),(⟨1770,1773,8⟩:S117),(⟨1774,1775,2⟩:S117),(⟨1776,1785,3⟩:S117),(⟨1786,1791,2⟩:S117),(⟨1872,1919,2⟩:S117),(⟨2274,2274,6⟩:S117),(⟨2364,2364,8⟩:S117),(⟨2369,2376,8⟩:S117),(⟨2381,2381,8⟩:S117),(⟨5760,5760,12⟩:S117),(⟨8192,8202,12⟩:S117),(⟨8203,8205,9⟩:S117),(⟨8207,8207,1⟩:S117),(⟨8208,8231,13⟩:S117),(⟨8232,8232,12⟩:S117),(⟨8233,8233,10⟩:S117),(⟨8234,8234,14⟩:S117),(⟨8235,8235,16⟩:S117),(⟨8236,8236,18⟩:S117),(⟨8237,8237,15⟩:S117),(⟨8238,8238,17⟩:S117),(⟨8239,8239,7⟩:S117),(⟨8240,8244,5⟩:S117),(⟨8245,8259,13⟩:S117),(⟨8260,8260,7⟩:S117),(⟨8261,8286,13⟩:S117),(⟨8287,8287,12⟩:S117),(⟨8288,8293,9⟩:S117),(⟨8294,8294,19⟩:S117),(⟨8295,8295,20⟩:S117),(⟨8296,8296,21⟩:S117),(⟨8297,8297,22⟩:S117),(⟨8298,8303,9⟩:S117),(⟨8304,8304,3⟩:S117),(⟨8308,8313,3⟩:S117),(⟨8314,8315,4⟩:S117),(⟨8316,8318,13⟩:S117),(⟨8320,8329,3⟩:S117),(⟨8330,8331,4⟩:S117),(⟨8332,8334,13⟩:S117),(⟨8352,8399,5⟩:S117),(⟨8400,8432,8⟩:S117),(⟨8592,8721,13⟩:S117),(⟨8722,8722,4⟩:S117),(⟨8723,8723,5⟩:S117),(⟨8724,9013,13⟩:S117),(⟨9352,9371,3⟩:S117),(⟨9472,9899,13⟩:S117),(⟨9901,10239,13⟩:S117),(⟨11904,11929,13⟩:S117),(⟨12288,12288,12⟩:S117),(⟨12289,12292,13⟩:S117),(⟨12296,12320,13⟩:S117),(⟨12330,12333,8⟩:S117),(⟨12336,12336,13⟩:S117),(⟨12441,12442,8⟩:S117),(⟨64285,64285,1⟩:S117),(⟨64286,64286,8⟩:S117),(⟨64287,64296,1⟩:S117),(⟨64297,64297,4⟩:S117),(⟨64298,64335,1⟩:S117),(⟨65024,65039,8⟩:S117),(⟨65056,65071,8⟩:S117),(⟨65104,65104,7⟩:S117),(⟨65106,65106,7⟩:S117),(⟨65109,65109,7⟩:S117),(⟨65119,65119,5⟩:S117),(⟨65122,65123,4⟩:S117),(⟨65129,65130,5⟩:S117),(⟨65136,65278,2⟩:S117),(⟨65279,65279,9⟩:S117),(⟨65281,65282,13⟩:S117),(⟨65283,65285,5⟩:S117),(⟨65286,65290,13⟩:S117),(⟨65291,65291,4⟩:S117),(⟨65292,65292,7⟩:S117),(⟨65293,65293,4⟩:S117),(⟨65294,65295,7⟩:S117),(⟨65296,65305,3⟩:S117),(⟨65306,65306,7⟩:S117),(⟨65307,65312,13⟩:S117),(⟨65339,65344,13⟩:S117),(⟨65371,65381,13⟩:S117),(⟨65504,65505,5⟩:S117),(⟨65509,65510,5⟩:S117),(⟨65529,65533,13⟩:S117),(⟨127744,128591,13⟩:S117),(⟨917760,917999,8⟩:S117)]
def class_spans.f:Option (List S117):=some class_spans.L
def class_spans.vals:List Value:=class_spans.L.map fun r=> .agg #[.int .i64 r.f0,.int .i64 r.f1,.int .i64 r.f2]
section
open Go.Proofs.YteoaegigjlhamaaH
theorem class_spans.reps {M:S117→List Value→Prop} (h: ∀ x:S117,M x [.int .i64 x.f0,.int .i64 x.f1,.int .i64 x.f2]): ∀ l:List S117,Reps M 3 l ((l.map fun r=>Value.agg #[.int .i64 r.f0,.int .i64 r.f1,.int .i64 r.f2]).flatMap fun v=>v.cells.toList)
 | []=>Reps.none _ _
 | x::l=>Reps.c3 (h x) (class_spans.reps h l)
set_option maxHeartbeats 4000000 in
theorem class_spans.calls (r:List S117) (w:World) (h:class_spans.f=some r) :
  Calls Try.prog 75 #[] w fun e w'=> ∃ v0_:Value,e= .returned (v0_)∧Kd.R k117 117 w' w.heap.size (fun _=>True) v0_ r∧Below w.heap.size w w':=by
 obtain rfl:class_spans.L=r:=Option.some.inj h
 clear h
 go_enter Try.func75,Try.ntmps75
 refine wp_seq (wp_region_list ?_)
 refine Kd.event_run (w1:=w) (v:= .slice none 0 0) rfl rfl ?_
 refine wpList_nil (wp_seq (wp_region_list ?_))
 refine builds_slice 166 _ (o:=_) (rest:=_) rfl k117 w.heap.size 117 rfl (N:=167) rfl 113 166 _ rfl class_spans.vals class_spans.L 168 TK TK (by decide) rfl TK Try.underlying113 TK TK (by decide +kernel) (by decide +kernel) (by decide) (by decide) (by decide) (fun v hv=>by unfold class_spans.vals at hv;obtain ⟨x,_,rfl⟩:=List.mem_map.1 hv;rfl) (class_spans.reps (fun x=>k117_mkM _ _ _ x) _) (Below.refl _ _) (Nat.le_refl _) ?_
 intro b v1 w1 hsz hdf hR hB
 refine Kd.event_run (w1:=w1) (v:=v1) rfl (by simp [execOp,put_eval b 167 v1 (by rw [hsz];decide)]) ?_
 refine wpList_nil (wp_ret ?_)
 refine bodyPost_ret (v:=v1) ((results_tmp rfl _ _ _).trans ?_) ?_ ⟨v1,rfl,hR,hB⟩
 ·
  simp [Act.put,hsz]
 ·
  simp [Act.put,hdf]
end
def class_Of.cells (r:S117):List Value:=[.int .i64 r.f0,.int .i64 r.f1,.int .i64 r.f2]
def class_Of.spn:List S117→Int→Int
 | [],_=>0
 | r::l,c=>if r.f1 < c then class_Of.spn l c else if c < r.f0 then 0 else r.f2
def class_Of.val (c:Int):Int:=class_Of.spn class_spans.L c
def class_Of.f (a0:Int):Option Int:=some (class_Of.val a0)
section
open Go.Proofs.YteoaegigjlhamaaH
def class_Of.side (r:S117) (c:Int):Int:=if r.f1 < c then -1 else if c < r.f0 then 1 else 0
theorem class_Of.cmp (f t k c:Int) (W:World):Calls Try.prog 77 #[.agg #[.int .i64 f,.int .i64 t,.int .i64 k],.int .i64 c] W fun e w'=>e= .returned (.int .i64 (class_Of.side (⟨f,t,k⟩:S117) c))∧Below W.heap.size W w':=by
 unfold class_Of.side
 by_cases h1:t < c
 ·
  rw [if_pos h1]
  have b1:decide (t < c)=true:=decide_eq_true h1
  clear h1
  go_enter Try.func77,Try.ntmps77
  go_wp2
  go_ret
  exact ⟨rfl,below_alloc (Below.refl _ _) _⟩
 ·
  rw [if_neg h1]
  have b1:decide (t < c)=false:=decide_eq_false h1
  clear h1
  by_cases h2:c < f
  ·
   rw [if_pos h2]
   have b2:decide (c < f)=true:=decide_eq_true h2
   clear h2
   go_enter Try.func77,Try.ntmps77
   go_wp2
   go_ret
   exact ⟨rfl,below_alloc (Below.refl _ _) _⟩
  ·
   rw [if_neg h2]
   have b2:decide (c < f)=false:=decide_eq_false h2
   clear h2
   go_enter Try.func77,Try.ntmps77
   go_wp2
   go_ret
   exact ⟨rfl,below_alloc (Below.refl _ _) _⟩
def class_Of.SPost (S:Nat→Int) (n:Nat) (w:World) (e:Ending) (w':World):Prop :=
 ∃ q:Nat,e= .returned (.tuple #[.int .i64 (q:Int),.bool (decide (q < n∧S q=0))])∧Below w.heap.size w w'∧q≤n∧((∀ a b,a≤b→b < n→S b < 0→S a < 0)→(∀ t,t < q→S t < 0)∧(∀ t,q≤t→t < n→0≤S t))
set_option maxHeartbeats 1000000 in
theorem class_Of.search (R:Nat→S117) (S:Nat→Int) (g c n:Nat) (y:Int) (w:World) (hg:g < w.heap.size) (hc: ∀ j,j < n→ ∀ (k:Nat) v,(class_Of.cells (R j))[k]?=some v→w.cell? ⟨g,j * 3+k,none⟩=some v) (hlen:n < 1000000)
  (hS: ∀ j,j < n→ ∀ W:World,Calls Try.prog 77 #[.agg #[.int .i64 (R j).f0,.int .i64 (R j).f1,.int .i64 (R j).f2],.int .i64 y] W fun e w'=>e= .returned (.int .i64 (S j))∧Below W.heap.size W w') :
  Calls Try.prog 76 #[.slice (some ⟨g,0,none⟩) n c,.int .i64 y,.func (.func 77) #[] #[]] w (class_Of.SPost S n w):=by
 have eg: ∀ args w,(callFunc 77 args).run Try.prog w= .ok (.enter 77 args) w:=enters_of Try.func77 TK rfl
 have HC:=Am hc
 have HSC:=Am hS
 have HG:=Am hg
 have HB0:=Am (Below.refl w.heap.size w)
 clear hc hS hg
 go_enter Try.func76,Try.ntmps76
 go_wp2
 go_loopg [9,10] n (fun kx s9 s10 wr=> ∃ lo hi:Nat,s9= .int .i64 lo∧s10= .int .i64 hi∧lo≤hi∧hi≤n∧hi - lo≤kx∧Aside0 (Below w.heap.size w wr)∧Aside0 ((∀ a b,a≤b→b < n→S b < 0→S a < 0)→(∀ t,t < lo→S t < 0)∧(∀ t,hi≤t→t < n→0≤S t)))
 case atStart=>exact ⟨0,n,rfl,rfl,Nat.zero_le _,Nat.le_refl _,by omega,HB0,⟨fun _=>⟨fun t ht=>absurd ht (Nat.not_lt_zero _),fun t h1 h2=>by omega⟩⟩⟩
 case round =>
  clear HB0
  obtain ⟨lo,hi,rfl,rfl,hlh,hin,hk,HB,I⟩:=hrel
  by_cases hlt:lo < hi
  ·
   have cm: ∀ (k:Nat) v,(class_Of.cells (R ((lo+hi) / 2)))[k]?=some v→wr.cell? ⟨g,(lo+hi) / 2 * 3+k,none⟩=some v:=fun k v h=>(HB.out.cell (p:=⟨g,(lo+hi) / 2 * 3+k,none⟩) HG.out).trans (HC.out _ (by omega) k v h)
   have hsm:=HSC.out ((lo+hi) / 2) (by omega)
   rcases hv:R ((lo+hi) / 2) with ⟨rf,rt,rk⟩
   rw [hv] at cm hsm
   have cm0:wr.cell? ⟨g,(lo+hi) / 2 * 3,none⟩=some (.int .i64 rf):=cm 0 _ rfl
   have cm1:wr.cell? ⟨g,(lo+hi) / 2 * 3+1,none⟩=some (.int .i64 rt):=cm 1 _ rfl
   have cm2:wr.cell? ⟨g,(lo+hi) / 2 * 3+2,none⟩=some (.int .i64 rk):=cm 2 _ rfl
   clear hv cm
   have HSM:=Am hsm
   clear hsm
   generalize hsv:S ((lo+hi) / 2)=s at HSM
   have V:=Am hsv
   clear hsv
   by_cases h1:s < 0
   ·
    have HV:=Am h1
    have hb1:decide (s < 0)=true:=decide_eq_true h1
    clear h1
    go_wp2_with (go_at_fn 77;refine (HSM.out _).mono ?_;rintro e w2 ⟨rfl,hb2⟩;replace HB:=Am (below_step HB.out hb2);clear hb2)
    go_roundg (hi - ((lo+hi) / 2+1))
    case measure=>omega
    case rel =>
     refine ⟨(lo+hi) / 2+1,hi,by rw [show ((lo:Int)+(hi:Int)) / 2+1=(((lo+hi) / 2+1:Nat):Int) by omega],rfl,by omega,hin,Nat.le_refl _,HB,⟨fun hm=>⟨fun t ht=>?_,(I.out hm).2⟩⟩⟩
     exact hm t ((lo+hi) / 2) (by omega) (by omega) (by rw [V.out];exact HV.out)
   ·
    have HV:=Am h1
    have hb1:decide (s < 0)=false:=decide_eq_false h1
    clear h1
    go_wp2_with (go_at_fn 77;refine (HSM.out _).mono ?_;rintro e w2 ⟨rfl,hb2⟩;replace HB:=Am (below_step HB.out hb2);clear hb2)
    go_roundg ((lo+hi) / 2 - lo)
    case measure=>omega
    case rel =>
     refine ⟨lo,(lo+hi) / 2,rfl,by rw [show ((lo:Int)+(hi:Int)) / 2=(((lo+hi) / 2:Nat):Int) by omega],by omega,by omega,Nat.le_refl _,HB,⟨fun hm=>⟨(I.out hm).1,fun t ht htn=>?_⟩⟩⟩
     have h5:=HV.out
     rw [← V.out] at h5
     refine Int.not_lt.1 (fun h6=>absurd (hm ((lo+hi) / 2) t ht htn h6) (Int.not_lt.2 (Int.not_lt.1 (fun h7=>absurd h7 (by simpa using h5)))))
  ·
   obtain rfl:hi=lo:=by omega
   by_cases hcn:hi < n
   ·
    have cm: ∀ (k:Nat) v,(class_Of.cells (R hi))[k]?=some v→wr.cell? ⟨g,hi * 3+k,none⟩=some v:=fun k v h=>(HB.out.cell (p:=⟨g,hi * 3+k,none⟩) HG.out).trans (HC.out _ hcn k v h)
    have hsm:=HSC.out hi hcn
    rcases hv:R hi with ⟨rf,rt,rk⟩
    rw [hv] at cm hsm
    have cm0:wr.cell? ⟨g,hi * 3,none⟩=some (.int .i64 rf):=cm 0 _ rfl
    have cm1:wr.cell? ⟨g,hi * 3+1,none⟩=some (.int .i64 rt):=cm 1 _ rfl
    have cm2:wr.cell? ⟨g,hi * 3+2,none⟩=some (.int .i64 rk):=cm 2 _ rfl
    clear hv cm
    have HSM:=Am hsm
    clear hsm
    generalize hsv:S hi=s at HSM
    have V:=Am hsv
    clear hsv
    by_cases h1:s=0
    ·
     subst h1
     go_wp2_with (go_at_fn 77;refine (HSM.out _).mono ?_;rintro e w2 ⟨rfl,hb2⟩;replace HB:=Am (below_step HB.out hb2);clear hb2)
     go_ret2
     exact ⟨hi,by rw [decide_eq_true (show hi < n∧S hi=0 from ⟨hcn,V.out⟩)];rfl,HB.out,hin,I.out⟩
    ·
     have hb1:(s==0)=false:=beq_eq_false_iff_ne.2 h1
     have HV:=Am h1
     clear h1
     go_wp2_with (go_at_fn 77;refine (HSM.out _).mono ?_;rintro e w2 ⟨rfl,hb2⟩;replace HB:=Am (below_step HB.out hb2);clear hb2)
     go_ret2
     exact ⟨hi,by rw [decide_eq_false (show ¬ (hi < n∧S hi=0) from fun h=>HV.out (V.out▸h.2))];rfl,HB.out,hin,I.out⟩
   ·
    go_wp2
    go_ret2
    exact ⟨hi,by rw [decide_eq_false (show ¬ (hi < n∧S hi=0) from fun h=>hcn h.1)];rfl,HB.out,hin,I.out⟩
theorem class_Of.spn_at: ∀ (l:List S117) (c:Int) (q:Nat),q≤l.length→(∀ t,t < q→(l.getD t z117).f1 < c)→(∀ t,q≤t→t < l.length→c≤(l.getD t z117).f1)→class_Of.spn l c=if q < l.length∧(l.getD q z117).f0≤c then (l.getD q z117).f2 else 0
 | [],c,q,hq,_,_=>by
  obtain rfl:q=0:=by simpa using hq
  rfl
 | r::l,c,0,hq,h1,h2=>by
  have h3:c≤r.f1:=h2 0 (Nat.le_refl _) (by simp)
  unfold class_Of.spn
  rw [if_neg (by omega)]
  by_cases h4:c < r.f0
  ·
   rw [if_pos h4,if_neg (fun h=>by have:r.f0≤c:=h.2;omega)]
  ·
   rw [if_neg h4,if_pos ⟨by simp,by show r.f0≤c;omega⟩]
   rfl
 | r::l,c,q+1,hq,h1,h2=>by
  have h3:r.f1 < c:=h1 0 (by omega)
  have ih:=class_Of.spn_at l c q (by simpa using hq) (fun t ht=>by simpa using h1 (t+1) (by omega)) (fun t ht1 ht2=>by simpa using h2 (t+1) (by omega) (by simpa using ht2))
  unfold class_Of.spn
  rw [if_pos h3,ih]
  simp
def class_Of.row (j:Nat):S117:=class_spans.L.getD j z117
theorem class_Of.row_up: ∀ a b,a < b→b < 166→(class_Of.row a).f1 < (class_Of.row b).f1:=by
 have h: ∀ b:Fin 166,∀ a:Fin b.val,(class_Of.row a.val).f1 < (class_Of.row b.val).f1:=by decide +kernel
 exact fun a b h1 h2=>h ⟨b,h2⟩ ⟨a,h1⟩
theorem class_Of.len:class_spans.L.length=166:=by decide +kernel
set_option maxHeartbeats 4000000 in
theorem class_Of.calls (a0:Int) (r:Int) (w:World) (h:class_Of.f a0=some r) :
  Calls Try.prog 49 #[.int .i64 a0] w fun e w'=>e= .returned (.int .i64 r)∧Below w.heap.size w w':=by
 have HV:=Am (show class_Of.val a0=r from Option.some.inj h)
 clear h
 have HB:=Am (Below.refl w.heap.size w)
 have HL:=Am class_Of.len
 have HSE:=Am (fun g W c (hg:g < W.heap.size) hc=>class_Of.search class_Of.row (fun j=>class_Of.side (class_Of.row j) a0) g c 166 a0 W hg hc (by decide) (fun j _ W=>class_Of.cmp _ _ _ _ _))
 have HUP:=Am class_Of.row_up
 have HAT:=Am (class_Of.spn_at class_spans.L a0)
 have HSP:=Am (fun W=>class_spans.calls class_spans.L W rfl)
 have HRW:=Am (show ∀ j,class_spans.L.getD j z117=class_Of.row j from fun j=>rfl)
 unfold class_Of.val at HV
 generalize class_spans.L=L at *
 go_enter Try.func49,Try.ntmps49
 go_wp2_with (go_at_call 75;refine (HSP.out _).mono ?_;rintro e w1 ⟨v1,rfl,hO,hb1⟩;obtain ⟨g,c,rfl,hgb,hgl,hty⟩:=Kd.R_form hO (by rw [HL.out];decide);replace HB:=Am (below_step HB.out hb1);clear hb1 hty;have HO:=Am (Kd.R_reads hO);clear hO;rw [HL.out] at HO;(try rw [HL.out]))
 have HC:Aside0 (∀ j,j < 166→ ∀ (k:Nat) v,(class_Of.cells (class_Of.row j))[k]?=some v→w1.cell? ⟨g,j * 3+k,none⟩=some v):=⟨fun j hj k v hk=>by
  obtain ⟨A,c',he,hlc,hC⟩:=HO.out
  injection he with he _ _
  subst he
  obtain ⟨ad,hA,hcell⟩:=hC.2.2 (by omega)
  injection hA with hA
  subst hA
  have hL:L[j]?=some (class_Of.row j):=by
   have h1:j < L.length:=by rw [HL.out];exact hj
   rw [List.getElem?_eq_getElem h1,← HRW.out j,List.getD_eq_getElem?_getD,List.getElem?_eq_getElem h1]
   rfl
  obtain ⟨cs,_,hK,hcc⟩:=hcell j _ hL
  obtain rfl:=k117_open hK
  have h3:=hcc k v hk
  have ea:(⟨g,0,none⟩:Addr).add (j * 3+k)=⟨g,j * 3+k,none⟩:=by
   by_cases h0:j * 3+k=0
   ·
    rw [h0];rfl
   ·
    simp [Addr.add]
    omega
  exact (congrArg w1.cell? ea).symm.trans h3⟩
 clear HO
 refine (HSE.out g w1 c hgl HC.out).mono ?_
 rintro e w4 ⟨q,rfl,hb4,hqn,hmq⟩
 have HC4:=Am (fun j hj k v h_=>(hb4.cell (p:=⟨g,j * 3+k,none⟩) hgl).trans (HC.out j hj k v h_))
 replace HB:=Am (below_step HB.out hb4)
 clear hb4 HC
 have hm:=hmq (fun a b hab hb hs=>by
  have e1:(class_Of.row b).f1 < a0:=by
   simp only [class_Of.side] at hs
   split at hs
   ·
    assumption
   ·
    split at hs <;> omega
  have e2:(class_Of.row a).f1 < a0:=by
   by_cases e:a=b
   ·
    subst e;exact e1
   ·
    have:=HUP.out a b (by omega) hb
    omega
  simp only [class_Of.side]
  rw [if_pos e2]
  decide)
 have hv:=HAT.out q (by rw [HL.out];exact hqn) (fun t ht=>by
  have:=hm.1 t ht
  rw [HRW.out]
  simp only [class_Of.side] at this
  split at this
  ·
   assumption
  ·
   split at this <;> omega) (fun t ht1 ht2=>by
  rw [HL.out] at ht2
  have:=hm.2 t ht1 ht2
  rw [HRW.out]
  simp only [class_Of.side] at this
  split at this
  ·
   omega
  ·
   omega)
 rw [HV.out,HL.out,HRW.out] at hv
 have hside:q < 166→class_Of.side (class_Of.row q) a0=0→(class_Of.row q).f0≤a0:=fun h1 h2=>by
  simp only [class_Of.side] at h2
  split at h2
  ·
   omega
  ·
   split at h2 <;> omega
 have hside2:q < 166→(class_Of.row q).f0≤a0→class_Of.side (class_Of.row q) a0=0:=fun h1 h2=>by
  have:=hm.2 q (Nat.le_refl _) h1
  simp only [class_Of.side] at this ⊢
  split at this
  ·
   omega
  ·
   rename_i h3
   rw [if_neg h3,if_neg (by omega)]
 clear hm hmq
 by_cases hq:q < 166∧(class_Of.row q).f0≤a0
 ·
  rw [if_pos hq] at hv
  rw [show decide (q < 166∧(fun j=>class_Of.side (class_Of.row j) a0) q=0)=true from decide_eq_true ⟨hq.1,hside2 hq.1 hq.2⟩]
  have cm2:w4.cell? ⟨g,q * 3+2,none⟩=some (.int .i64 (class_Of.row q).f2):=HC4.out q hq.1 2 _ rfl
  have HQ:=Am hv
  have hq1:=hq.1
  clear hv hside hside2 hq HC4 HSE HUP HAT HSP HRW HV HL hqn
  generalize (class_Of.row q).f2=kk at *
  go_wp2
  go_ret
  exact ⟨by rw [HQ.out];rfl,HB.out⟩
 ·
  rw [if_neg hq] at hv
  rw [show decide (q < 166∧(fun j=>class_Of.side (class_Of.row j) a0) q=0)=false from decide_eq_false (fun h=>hq ⟨h.1,hside h.1 h.2⟩)]
  have HQ:=Am hv
  clear hv hside hside2 hq HC4 HSE HUP HAT HSP HRW HV HL hqn
  go_wp2
  go_ret
  exact ⟨by rw [HQ.out];rfl,HB.out⟩
end
def level_Removed.f (a0:Int):Option (Bool):=if a0=16 then (some true) else (if a0=14 then (some true) else (if a0=17 then (some true) else (if a0=15 then (some true) else (if a0=18 then (some true) else (if a0=9 then (some true) else (some false))))))
set_option maxHeartbeats 8000000 in
theorem level_Removed.calls (a0:Int) (r:Bool) (w:World) (h:level_Removed.f a0=some r) :
  Calls Try.prog 78 #[.int .i64 a0] w fun e w'=>e= .returned (.bool r)∧Drawn0 w w':=by
 have H:(if a0=16 then (some true) else (if a0=14 then (some true) else (if a0=17 then (some true) else (if a0=15 then (some true) else (if a0=18 then (some true) else (if a0=9 then (some true) else (some false)))))))=some r:=h
 clear h
 by_cases c2:a0=16
 ·
  rw [if_pos c2] at H
  have c2b0:(a0==16)=true:=beq_iff_eq.mpr c2
  have c2b1:(a0 !=16)=false:=bne_eq_false_iff_eq.mpr c2
  clear c2
  obtain rfl:=Option.some.inj H
  go_enter Try.func78,Try.ntmps78
  go_wp2
  go_ret
  exact ⟨by first|rfl|(simp;done)|(simp [*];done),by repeat (first|exact Drawn0.refl _|apply Drawn0.step)⟩
 rw [if_neg c2] at H
 have c2b0:(a0==16)=false:=beq_eq_false_iff_ne.mpr c2
 have c2b1:(a0 !=16)=true:=bne_iff_ne.mpr c2
 by_cases c3:a0=14
 ·
  rw [if_pos c3] at H
  have c3b0:(a0==14)=true:=beq_iff_eq.mpr c3
  have c3b1:(a0 !=14)=false:=bne_eq_false_iff_eq.mpr c3
  clear c3
  obtain rfl:=Option.some.inj H
  go_enter Try.func78,Try.ntmps78
  go_wp2
  go_ret
  exact ⟨by first|rfl|(simp;done)|(simp [*];done),by repeat (first|exact Drawn0.refl _|apply Drawn0.step)⟩
 rw [if_neg c3] at H
 have c3b0:(a0==14)=false:=beq_eq_false_iff_ne.mpr c3
 have c3b1:(a0 !=14)=true:=bne_iff_ne.mpr c3
 by_cases c4:a0=17
 ·
  rw [if_pos c4] at H
  have c4b0:(a0==17)=true:=beq_iff_eq.mpr c4
  have c4b1:(a0 !=17)=false:=bne_eq_false_iff_eq.mpr c4
  clear c4
  obtain rfl:=Option.some.inj H
  go_enter Try.func78,Try.ntmps78
  go_wp2
  go_ret
  exact ⟨by first|rfl|(simp;done)|(simp [*];done),by repeat (first|exact Drawn0.refl _|apply Drawn0.step)⟩
 rw [if_neg c4] at H
 have c4b0:(a0==17)=false:=beq_eq_false_iff_ne.mpr c4
 have c4b1:(a0 !=17)=true:=bne_iff_ne.mpr c4
 by_cases c5:a0=15
 ·
  rw [if_pos c5] at H
  have c5b0:(a0==15)=true:=beq_iff_eq.mpr c5
  have c5b1:(a0 !=15)=false:=bne_eq_false_iff_eq.mpr c5
  clear c5
  obtain rfl:=Option.some.inj H
  go_enter Try.func78,Try.ntmps78
  go_wp2
  go_ret
  exact ⟨by first|rfl|(simp;done)|(simp [*];done),by repeat (first|exact Drawn0.refl _|apply Drawn0.step)⟩
 rw [if_neg c5] at H
 have c5b0:(a0==15)=false:=beq_eq_false_iff_ne.mpr c5
 have c5b1:(a0 !=15)=true:=bne_iff_ne.mpr c5
 by_cases c6:a0=18
 ·
  rw [if_pos c6] at H
  have c6b0:(a0==18)=true:=beq_iff_eq.mpr c6
  have c6b1:(a0 !=18)=false:=bne_eq_false_iff_eq.mpr c6
  clear c6
  obtain rfl:=Option.some.inj H
  go_enter Try.func78,Try.ntmps78
  go_wp2
  go_ret
  exact ⟨by first|rfl|(simp;done)|(simp [*];done),by repeat (first|exact Drawn0.refl _|apply Drawn0.step)⟩
 rw [if_neg c6] at H
 have c6b0:(a0==18)=false:=beq_eq_false_iff_ne.mpr c6
 have c6b1:(a0 !=18)=true:=bne_iff_ne.mpr c6
 by_cases c7:a0=9
 rotate_left
 ·
  rw [if_neg c7] at H
  have c7b0:(a0==9)=false:=beq_eq_false_iff_ne.mpr c7
  have c7b1:(a0 !=9)=true:=bne_iff_ne.mpr c7
  obtain rfl:=Option.some.inj H
  go_enter Try.func78,Try.ntmps78
  go_wp2
  go_ret
  exact ⟨by first|rfl|(simp;done)|(simp [*];done),by repeat (first|exact Drawn0.refl _|apply Drawn0.step)⟩
 rw [if_pos c7] at H
 have c7b0:(a0==9)=true:=beq_iff_eq.mpr c7
 have c7b1:(a0 !=9)=false:=bne_eq_false_iff_eq.mpr c7
 clear c7
 obtain rfl:=Option.some.inj H
 go_enter Try.func78,Try.ntmps78
 go_wp2
 go_ret
 exact ⟨by first|rfl|(simp;done)|(simp [*];done),by repeat (first|exact Drawn0.refl _|apply Drawn0.step)⟩
def bidi_blank.f (a0:Int):Option (Bool):=if a0=12 then (some true) else (if a0≥19 then (if a0≤22 then (some true) else ((level_Removed.f a0).bind fun t119=>(some t119))) else ((level_Removed.f a0).bind fun t120=>(some t120)))
set_option maxHeartbeats 8000000 in
theorem bidi_blank.calls (a0:Int) (r:Bool) (w:World) (h:bidi_blank.f a0=some r) :
  Calls Try.prog 50 #[.int .i64 a0] w fun e w'=>e= .returned (.bool r)∧Drawn0 w w':=by
 have H:(if a0=12 then (some true) else (if a0≥19 then (if a0≤22 then (some true) else ((level_Removed.f a0).bind fun t119=>(some t119))) else ((level_Removed.f a0).bind fun t120=>(some t120))))=some r:=h
 clear h
 by_cases c2:a0=12
 ·
  rw [if_pos c2] at H
  have c2b0:(a0==12)=true:=beq_iff_eq.mpr c2
  have c2b1:(a0 !=12)=false:=bne_eq_false_iff_eq.mpr c2
  clear c2
  obtain rfl:=Option.some.inj H
  go_enter Try.func50,Try.ntmps50
  go_wp2
  go_ret
  exact ⟨by first|rfl|(simp;done)|(simp [*];done),by repeat (first|exact Drawn0.refl _|apply Drawn0.step)⟩
 rw [if_neg c2] at H
 have c2b0:(a0==12)=false:=beq_eq_false_iff_ne.mpr c2
 have c2b1:(a0 !=12)=true:=bne_iff_ne.mpr c2
 by_cases c3:a0≥19
 rotate_left
 ·
  rw [if_neg c3] at H
  have c3b0:decide (19≤a0)=false:=decide_eq_false c3
  clear c3
  obtain ⟨t120,A60,H⟩:=Option.bind_eq_some_iff.mp H
  try dsimp only at H
  have A6:=Am A60
  clear A60
  obtain rfl:=Option.some.inj H
  go_enter Try.func50,Try.ntmps50
  go_wp2_with (first|(go_at_call 78;(with_reducible refine (level_Removed.calls a0 t120 _ A6.out).mono ?_);rintro e w' ⟨rfl,⟨nd,rfl⟩⟩))
  go_ret
  exact ⟨by first|rfl|(simp;done)|(simp [*];done),by repeat (first|exact Drawn0.refl _|apply Drawn0.step)⟩
 rw [if_pos c3] at H
 have c3b0:decide (19≤a0)=true:=decide_eq_true c3
 clear c3
 by_cases c4:a0≤22
 ·
  rw [if_pos c4] at H
  have c4b0:decide (a0≤22)=true:=decide_eq_true c4
  clear c4
  obtain rfl:=Option.some.inj H
  go_enter Try.func50,Try.ntmps50
  go_wp2
  go_ret
  exact ⟨by first|rfl|(simp;done)|(simp [*];done),by repeat (first|exact Drawn0.refl _|apply Drawn0.step)⟩
 rw [if_neg c4] at H
 have c4b0:decide (a0≤22)=false:=decide_eq_false c4
 clear c4
 obtain ⟨t119,A50,H⟩:=Option.bind_eq_some_iff.mp H
 try dsimp only at H
 have A5:=Am A50
 clear A50
 obtain rfl:=Option.some.inj H
 go_enter Try.func50,Try.ntmps50
 go_wp2_with (first|(go_at_call 78;(with_reducible refine (level_Removed.calls a0 t119 _ A5.out).mono ?_);rintro e w' ⟨rfl,⟨nd,rfl⟩⟩))
 go_ret
 exact ⟨by first|rfl|(simp;done)|(simp [*];done),by repeat (first|exact Drawn0.refl _|apply Drawn0.step)⟩
def bidi_Line.go:List (S36 × Int)→Int→List Int × Bool
 | [],_=>([],true)
 | x::r,p=>let q:=bidi_Line.go r p;let c:=class_Of.val x.1.f2;let e:=decide (c=11) || decide (c=10) || q.2 && ((bidi_blank.f c).getD false);((if e then p else x.2)::q.1,e)
def bidi_Line.f (l0:List S36) (l1:List Int) (a2:Int):Option (List Int):=if l0.length=l1.length∧l0.length < 1000000 then some (bidi_Line.go (l0.zip l1) a2).1 else none
section
open Go.Proofs.YteoaegigjlhamaaH
def bidi_Line.bk (N:Nat):(n:Nat)→n≤N→List (Fin N)
 | 0,_=>[]
 | n+1,h=>⟨n,h⟩::bidi_Line.bk N n (Nat.le_of_succ_le h)
def bidi_Line.enc (l:List S36) (y:Fin l.length):Array Value:= #[.int .i64 (y.val:Int),.agg #[.int .i64 (rd_T36 l (y.val:Int)).f0,.int .i64 (rd_T36 l (y.val:Int)).f1,.int .i64 (rd_T36 l (y.val:Int)).f2]]
def bidi_Line.KP (B bp:Nat) (X Y:World):Prop:=Below B X Y∧ ∀ o,X.heap[bp]?=some o→Y.heap[bp]?=some o
theorem bidi_Line.KP_t {B bp:Nat} {X Y Z:World} (h:bidi_Line.KP B bp X Y) (g:bidi_Line.KP B bp Y Z):bidi_Line.KP B bp X Z:=⟨h.1.trans g.1,fun o ho=>g.2 o (h.2 o ho)⟩
theorem bidi_Line.KP_b {B bp:Nat} {W0:World} (hB:B≤W0.heap.size) (hbp:bp < W0.heap.size) (W:World) (l:Nat) (o o':Obj) (hl:W0.heap.size≤l) (h:W.heap[l]?=some o) (h1:o.isCells=false) (h2:o.isWalk=false):bidi_Line.KP B bp W (W.putObj l o') :=
 ⟨belowK_b (w:=W0) hB W l o o' hl h h1 h2,fun q hq=>(World.putObj_heap_other (by omega)).trans hq⟩
def bidi_Line.add (p:Int) (l:List S36) (s:List Int × Bool) (x:Fin l.length):List Int × Bool :=
 let c:=class_Of.val (rd_T36 l (x.val:Int)).f2
 let e:=decide (c=11) || decide (c=10) || s.2 && ((bidi_blank.f c).getD false)
 (if e then s.1.set x.val p else s.1,e)
def bidi_Line.all (p:Int) (l:List S36) (l1:List Int) (ps:List (Fin l.length)):List Int × Bool:=ps.foldl (bidi_Line.add p l) (l1,true)
theorem bidi_Line.all_snoc (p:Int) (l:List S36) (l1:List Int) (ps:List (Fin l.length)) (x:Fin l.length):bidi_Line.all p l l1 (ps++[x])=bidi_Line.add p l (bidi_Line.all p l l1 ps) x:=by simp [bidi_Line.all,List.foldl_append]
theorem bidi_Line.add_len (p:Int) (l:List S36) (s:List Int × Bool) (x:Fin l.length):(bidi_Line.add p l s x).1.length=s.1.length:=by
 unfold bidi_Line.add
 dsimp only
 split <;> simp
theorem bidi_Line.fold_len (p:Int) (l:List S36): ∀ (ps:List (Fin l.length)) (s:List Int × Bool),(ps.foldl (bidi_Line.add p l) s).1.length=s.1.length
 | [],_=>rfl
 | x::ps,s=>by rw [List.foldl_cons,bidi_Line.fold_len p l ps,bidi_Line.add_len]
theorem bidi_Line.all_len (p:Int) (l:List S36) (l1:List Int) (ps:List (Fin l.length)):(bidi_Line.all p l l1 ps).1.length=l1.length:=bidi_Line.fold_len p l ps _
theorem bidi_Line.fin (p:Int) (l0:List S36) (l1:List Int) (hl:l0.length=l1.length): ∀ n (h:n≤l0.length),
  (bidi_Line.bk l0.length n h).foldl (bidi_Line.add p l0) (l1.take n++(bidi_Line.go ((l0.drop n).zip (l1.drop n)) p).1,(bidi_Line.go ((l0.drop n).zip (l1.drop n)) p).2)=bidi_Line.go (l0.zip l1) p
 | 0,_=>by simp [bidi_Line.bk]
 | n+1,h=>by
  have h0:n < l0.length:=h
  have h1:n < l1.length:=by omega
  have e0:rd_T36 l0 (n:Int)=l0[n]:=by
   unfold rd_T36
   rw [Int.toNat_natCast,List.getD_eq_getElem?_getD,List.getElem?_eq_getElem h0]
   rfl
  rw [← bidi_Line.fin p l0 l1 hl n (by omega),bidi_Line.bk,List.foldl_cons]
  congr 1
  rw [List.drop_eq_getElem_cons h0,List.drop_eq_getElem_cons h1,List.zip_cons_cons,bidi_Line.go]
  unfold bidi_Line.add
  dsimp only
  rw [e0,List.take_add_one,List.getElem?_eq_getElem h1]
  have hs:(l1.take n++(some l1[n]).toList++(bidi_Line.go ((l0.drop (n+1)).zip (l1.drop (n+1))) p).1).set n p=l1.take n++p::(bidi_Line.go ((l0.drop (n+1)).zip (l1.drop (n+1))) p).1:=by
   have ht:(l1.take n).length=n:=by rw [List.length_take];omega
   rw [List.append_assoc,List.set_append_right _ _ (by rw [ht];exact Nat.le_refl _),ht,Nat.sub_self]
   rfl
  rw [hs]
  generalize (decide (class_Of.val l0[n].f2=11) || decide (class_Of.val l0[n].f2=10) || (bidi_Line.go ((l0.drop (n+1)).zip (l1.drop (n+1))) p).2 && ((bidi_blank.f (class_Of.val l0[n].f2)).getD false))=e
  cases e with
  | false=>exact congrArg (fun z=>(z,false)) (by rw [List.append_assoc];rfl)
  | true=>rfl
theorem bidi_Line.all_go (p:Int) (l0:List S36) (l1:List Int) (hl:l0.length=l1.length):bidi_Line.all p l0 l1 (bidi_Line.bk l0.length l0.length (Nat.le_refl _))=bidi_Line.go (l0.zip l1) p:=by
 have:=bidi_Line.fin p l0 l1 hl l0.length (Nat.le_refl _)
 rw [List.drop_length,List.zip_nil_left,show l1.take l0.length=l1 by rw [hl,List.take_length]] at this
 rw [← this]
 simp [bidi_Line.go,bidi_Line.all]
attribute [local go_sem] Oper.semAt_some
set_option maxHeartbeats 2000000 in
theorem bidi_Line.it (n:Nat) (hn:1≤n) (l_ bp:Nat) (w0:World) (A:Option Addr) (c:Nat) (l:List S36) (hl:l.length < 1000000) (J Jx:List (Fin l.length)→World→Prop)
  (HR:Aside0 (Kd.C k36 w0 A l.length l)) (HC:Aside0 (l.length≤c))
  (hY: ∀ pre x W,J pre W→pre.length < (bidi_Line.bk l.length l.length (Nat.le_refl _)).length→YieldAt Fence.wide (n - 1) Try.prog l_ (bidi_Line.enc l x) W fun e W'=>(e= .returned (.bool true)∧J (pre++[x]) W'∧bidi_Line.KP w0.heap.size bp W W')∨(e= .returned (.bool false)∧Jx (pre++[x]) W'))
  (W:World) (hJ:AbidesFrom W.heap.size J) (hb:Aside0 (Below w0.heap.size w0 W)) (hbp:Aside0 (W.heap[bp]?=some (.cells #[.slice A l.length c] 22 (0,0)))) (h0:J [] W) :
  CallsIn Fence.wide n Try.prog 74 #[.func (.yield l_) #[] #[],.pointer (some ⟨bp,0,none⟩)] W fun e W'=>(∃ v,e= .returned v)∧((∃ xs,xs=bidi_Line.bk l.length l.length (Nat.le_refl _)∧J xs W')∨(∃ pre,True∧Jx pre W')):=by
 refine callsIn_of_wp Try.func74 rfl trivial ?_ rfl
 simp only [Try.ntmps74,List.size_toArray,List.length_cons,List.length_nil,Nat.reduceAdd,Nat.reduceSub,Array.replicate_succ,Array.replicate_zero,List.push_toArray,List.append_toArray,List.nil_append,List.cons_append]
 have x0:=(blk_cell hbp.out 0).trans rfl
 have HY:=Am hY
 have HJ:=Am hJ
 have H0:=Am h0
 obtain ⟨i1,hi1⟩: ∃ i1:Int,i1=(l.length:Int) - 1:=⟨_,rfl⟩
 have hw1:wrap64 ((l.length:Int) - 1)=i1:=by rw [hi1];unfold wrap64;omega
 have hw2:IntKind.i64.wrap ((l.length:Int) - 1)=i1:=by rw [hi1,IntKind.wrap_i64];omega
 have HI1:=Am hi1
 clear hY hJ h0 hi1
 gi_wp2
 clear x0
 gi_loopg [3] (l.length) (fun kx s3 wr=> ∃ (pre:List (Fin l.length)) (i:Nat) (ii:Int) (hil:i≤l.length),s3= .int .i64 ii∧Aside0 (ii=(i:Int) - 1)∧kx=i∧Aside0 (bidi_Line.bk l.length l.length (Nat.le_refl _)=pre++bidi_Line.bk l.length i hil)∧Aside0 (J pre wr)∧Aside0 (Below w0.heap.size w0 wr)∧Aside0 (wr.heap[bp]?=some (.cells #[.slice A l.length c] 22 (0,0)))∧Aside0 (W.heap.size≤wr.heap.size))
 case atStart=>exact ⟨[],l.length,i1,Nat.le_refl _,rfl,HI1,rfl,⟨rfl⟩,H0,hb,hbp,⟨Nat.le_refl _⟩⟩
 case round =>
  clear H0 hb hbp hw1 hw2
  obtain ⟨pre,i,ii,hil,rfl,hii,hkx,HYS,H0,hb,hbp,hsz⟩:=hrel
  have HKX:=Am hkx
  clear hkx
  cases i with
  | succ i =>
   have hii':ii=(i:Int):=by rw [hii.out];omega
   have hi':ii < (l.length:Int):=by rw [hii'];omega
   have hi0:(0:Int)≤ii:=by rw [hii'];omega
   obtain ⟨ad,hA,hc0,hc1,hc2⟩:=at_T36 (Kd.C_below HR.out hb.out) ii hi0 hi'
   have HS:=HYS.out
   rw [bidi_Line.bk] at HS
   have hlen:pre.length < (bidi_Line.bk l.length l.length (Nat.le_refl _)).length:=by rw [HS];simp
   have HS':=Am HS
   obtain ⟨i2,hi2⟩: ∃ i2:Int,i2=ii - 1:=⟨_,rfl⟩
   have hw1:wrap64 (ii - 1)=i2:=by rw [hi2];unfold wrap64;omega
   have hw2:IntKind.i64.wrap (ii - 1)=i2:=by rw [hi2,IntKind.wrap_i64];omega
   have HI2:=Am (show i2=(i:Int) - 1 by rw [hi2,hii'])
   have x1:=(blk_cell hbp.out 0).trans rfl
   subst hA
   obtain ⟨fn,tmps,assign,body,hy,hR⟩:=HY.out pre ⟨i,hil⟩ wr H0.out hlen
   dsimp only [bidi_Line.enc] at hy
   rw [← hii'] at hy
   have HL:=Am hil
   clear HS HYS hlen hii hii' hi2
   gi_wp2
   refine hR.mono ?_
   rintro e W6 (⟨rfl,hJ6,hk6⟩|⟨rfl,hJx6⟩)
   ·
    have h6:=Am hJ6
    have k6:=Am hk6
    clear hJ6 hk6 hy hR x1
    gi_wp2
    gi_roundg (i)
    case measure=>have:=HKX.out;omega
    case rel=>exact ⟨pre++[⟨i,HL.out⟩],i,i2,Nat.le_of_succ_le HL.out,rfl,HI2,rfl,⟨by rw [HS'.out];simp⟩,h6,⟨hb.out.trans k6.out.1⟩,⟨k6.out.2 _ hbp.out⟩,⟨Nat.le_trans hsz.out k6.out.1.size⟩⟩
   ·
    have h6:=Am hJx6
    clear hJx6 hy hR x1
    gi_wp2
    refine bodyPost_ret (results_none rfl _ _ _) rfl ?_
    exact ⟨⟨_,rfl⟩,.inr ⟨_,trivial,h6.out⟩⟩
  | zero =>
   have hi': ¬ ii≥0:=by rw [hii.out];omega
   have hi2: ¬ 0≤ii:=hi'
   have e:=HYS.out
   rw [bidi_Line.bk,List.append_nil] at e
   have H1:Aside0 (J (bidi_Line.bk l.length l.length (Nat.le_refl _)) wr):=⟨e▸H0.out⟩
   clear HYS e H0
   gi_wp2
   go_end0
   exact ⟨⟨_,rfl⟩,.inl H1.out⟩
theorem bidi_Line.bw_calls (S:Value) (hS:S.oneCell'=true) (W:World):Calls Try.prog 48 #[S] W fun e w'=>e= .returned (.func (.func 74) #[] #[.pointer (some ⟨W.heap.size,0,none⟩)])∧w'=W.alloc (.cells #[S] 22):=by
 go_enter Try.func48,Try.ntmps48
 go_wp2
 go_ret
 exact ⟨rfl,rfl⟩
theorem bidi_Line.stops (bp:Nat) (w:World) (A:Option Addr) (c:Nat) (l:List S36) (hl:l.length < 1000000)
  (HR:Aside0 (Kd.C k36 w A l.length l)) (HC:Aside0 (l.length≤c)) (W0:World) (hb:Below w.heap.size w W0) (hbp:W0.heap[bp]?=some (.cells #[.slice A l.length c] 22 (0,0))) :
  SeqStopsK Fence.wide 5 Try.prog 74 #[.pointer (some ⟨bp,0,none⟩)] (bidi_Line.enc l) (bidi_Line.KP w.heap.size bp) (fun xs=>xs=bidi_Line.bk l.length l.length (Nat.le_refl _)) (fun _=>True) (bidi_Line.bk l.length l.length (Nat.le_refl _)).length W0 :=
 fun l_ J Jx W hW hJ hJx hY h0=>bidi_Line.it 5 (by omega) l_ bp w A c l hl J Jx HR HC hY W hJ ⟨below_weaken hb hb.size hW⟩ ⟨blk_below hbp hW⟩ h0
def bidi_Line.Inv (bo b7:Nat) (p:Int) (v:Value) (A0:Option Addr) (n0 c0:Nat) (s:List Int × Bool) (W:World):Prop :=
 W.heap[bo]?=some (.cells #[.int .i64 p] 3 (0,0))∧W.heap[b7]?=some (.cells #[v] 23 (0,0))∧W.heap[b7+1]?=some (.cells #[.bool s.2] 4 (0,0))∧W.heap[b7+1+1]?=some (.cells #[.slice A0 n0 c0] 22 (0,0))∧Kd.R (Kd.int .i64) 3 W (bo+1) (fun k=>bo < k∧k < b7) v s.1
theorem bidi_Line.row {X:World} {B:Nat} {row:Option Nat} (hr: ∀ r,row=some r→B≤r∧ ∃ o:Obj,X.heap[r]?=some o∧o.isCells=false) (k:Nat) (hk: ∃ q cells,X.heap[k]?=some (.cells cells q (0,0))):some k≠row:=fun e=>by
 obtain ⟨q,cells,hc⟩:=hk
 obtain ⟨_,o,ho,hcc⟩:=hr k e.symm
 rw [hc] at ho
 cases ho
 cases hcc
theorem bidi_Line.own {β:Type} (B bo b7:Nat) (p:Int) (v:Value) (A0:Option Addr) (n0 c0:Nat) (st:β→List Int × Bool):OwnFrom B (fun (pre:β) W=>bidi_Line.Inv bo b7 p v A0 n0 c0 (st pre) W):=by
 rintro pre X Y row ⟨h1,h2,h3,h4,h5⟩ hg hr
 refine ⟨blk_grown h1 hg (bidi_Line.row hr _ ⟨_,_,h1⟩),blk_grown h2 hg (bidi_Line.row hr _ ⟨_,_,h2⟩),blk_grown h3 hg (bidi_Line.row hr _ ⟨_,_,h3⟩),blk_grown h4 hg (bidi_Line.row hr _ ⟨_,_,h4⟩),Kd.R_mono (Kd.R_grown (Kd.R_bound h5) hg (fun k hk=>?_)) (fun k hk=>hk.1)⟩
 obtain ⟨q,_,cells,hc⟩:=hk.2.2.2
 exact bidi_Line.row hr k ⟨q,cells,hc⟩
def bidi_Line.post (B bo b7:Nat) (p:Int) (v:Value) (A0:Option Addr) (n0 c0:Nat) (s:List Int × Bool) (W:World):Exit→Act→World→Prop
 | .normal,_,W'=>KeepsFrom B W W'∧Below bo W W'∧(∀ o,W.heap[b7+1+1]?=some o→W'.heap[b7+1+1]?=some o)∧bidi_Line.Inv bo b7 p v A0 n0 c0 s W'
 | _,_,_=>False
theorem bidi_Line.below_inv {bo b7:Nat} {p:Int} {v:Value} {A0:Option Addr} {n0 c0:Nat} {s:List Int × Bool} {W W':World} (h:bidi_Line.Inv bo b7 p v A0 n0 c0 s W) (hb:Below W.heap.size W W'):bidi_Line.Inv bo b7 p v A0 n0 c0 s W' :=
 ⟨blk_below h.1 hb,blk_below h.2.1 hb,blk_below h.2.2.1 hb,blk_below h.2.2.2.1 hb,Kd.R_below h.2.2.2.2 hb⟩
theorem bidi_Line.flag {bo b7:Nat} {p:Int} {v:Value} {A0:Option Addr} {n0 c0:Nat} {out:List Int} {e:Bool} {W:World} (h:bidi_Line.Inv bo b7 p v A0 n0 c0 (out,e) W) (hbo:bo < b7) (e':Bool):bidi_Line.Inv bo b7 p v A0 n0 c0 (out,e') (W.setCell ⟨b7+1,0,none⟩ (.bool e')):=by
 obtain ⟨h1,h2,h3,h4,h5⟩:=h
 refine ⟨blk_far h1 (by show bo≠b7+1;omega) _,blk_far h2 (by show b7≠b7+1;omega) _,?_,blk_far h4 (by show b7+1+1≠b7+1;omega) _,Kd.R_far h5 (fun k hk=>by show k≠b7+1;omega) _⟩
 have:=blk_set h3 0 (.bool e')
 exact this
theorem bidi_Line.level {bo b7 g cap n:Nat} {p:Int} {A0:Option Addr} {n0 c0:Nat} {out:List Int} {e:Bool} {W:World} (h:bidi_Line.Inv bo b7 p (.slice (some ⟨g,0,none⟩) n cap) A0 n0 c0 (out,e) W) (hg:bo < g∧g < b7) (ii:Int):bidi_Line.Inv bo b7 p (.slice (some ⟨g,0,none⟩) n cap) A0 n0 c0 (out.set ii.toNat p,e) (W.setCell ⟨g,ii.toNat,none⟩ (.int .i64 p)):=by
 obtain ⟨h1,h2,h3,h4,h5⟩:=h
 exact ⟨blk_far h1 (by show bo≠g;omega) _,blk_far h2 (by show b7≠g;omega) _,blk_far h3 (by show b7+1≠g;omega) _,blk_far h4 (by show b7+1+1≠g;omega) _,Kd.R_putn h5 ii p⟩
theorem bidi_Line.post_in {B bo b7:Nat} {p:Int} {v:Value} {A0:Option Addr} {n0 c0:Nat} {s:List Int × Bool} {W W':World} {a:Act} {id:Nat} (h:KeepsFrom B W W'∧Below bo W W'∧(∀ o,W.heap[b7+1+1]?=some o→W'.heap[b7+1+1]?=some o)∧bidi_Line.Inv bo b7 p v A0 n0 c0 s W') :
  Exit.inBlock id (bidi_Line.post B bo b7 p v A0 n0 c0 s W) Exit.normal a W':=h
theorem bidi_Line.ends0 {bo b7:Nat} {p:Int} {v:Value} {A0:Option Addr} {n0 c0:Nat} {out:List Int} {e:Bool} {W W3:World} (B:Nat) (hk:KeepsOthers W W3) (hb:Below bo W W3) (hp: ∀ o,W.heap[b7+1+1]?=some o→W3.heap[b7+1+1]?=some o) (hI:bidi_Line.Inv bo b7 p v A0 n0 c0 (out,e) W3) (hlt:bo < b7) (e':Bool) :
  KeepsFrom B W (W3.setCell ⟨b7+1,0,none⟩ (.bool e'))∧Below bo W (W3.setCell ⟨b7+1,0,none⟩ (.bool e'))∧(∀ o,W.heap[b7+1+1]?=some o→(W3.setCell ⟨b7+1,0,none⟩ (.bool e')).heap[b7+1+1]?=some o)∧bidi_Line.Inv bo b7 p v A0 n0 c0 (out,e') (W3.setCell ⟨b7+1,0,none⟩ (.bool e')) :=
 ⟨(hk.trans (KeepsOthers.setCell _ _ _)).from B,hb.setCell (p:=⟨b7+1,0,none⟩) (by show bo≤b7+1;omega) _,fun o ho=>(Below.heap_setCell W3 ⟨b7+1,0,none⟩ (.bool e') (b7+1+1) (by show b7+1+1≠b7+1;omega)).trans (hp o ho),bidi_Line.flag hI hlt e'⟩
theorem bidi_Line.ends1 {bo b7 g cap n:Nat} {p:Int} {A0:Option Addr} {n0 c0:Nat} {out:List Int} {e:Bool} {W W4:World} {B:Nat} (h:KeepsFrom B W W4∧Below bo W W4∧(∀ o,W.heap[b7+1+1]?=some o→W4.heap[b7+1+1]?=some o)∧bidi_Line.Inv bo b7 p (.slice (some ⟨g,0,none⟩) n cap) A0 n0 c0 (out,e) W4) (hg:bo < g∧g < b7) (ii:Int) :
  KeepsFrom B W (W4.setCell ⟨g,ii.toNat,none⟩ (.int .i64 p))∧Below bo W (W4.setCell ⟨g,ii.toNat,none⟩ (.int .i64 p))∧(∀ o,W.heap[b7+1+1]?=some o→(W4.setCell ⟨g,ii.toNat,none⟩ (.int .i64 p)).heap[b7+1+1]?=some o)∧bidi_Line.Inv bo b7 p (.slice (some ⟨g,0,none⟩) n cap) A0 n0 c0 (out.set ii.toNat p,e) (W4.setCell ⟨g,ii.toNat,none⟩ (.int .i64 p)) :=
 ⟨h.1.trans ((KeepsOthers.setCell _ _ _).from B),h.2.1.setCell (p:=⟨g,ii.toNat,none⟩) (by show bo≤g;omega) _,fun o ho=>(Below.heap_setCell W4 ⟨g,ii.toNat,none⟩ (.int .i64 p) (b7+1+1) (by show b7+1+1≠g;omega)).trans (h.2.2.1 o ho),bidi_Line.level h.2.2.2 hg ii⟩
theorem bidi_Line.blank_some (c:Int): ∃ b,bidi_blank.f c=some b:=by
 unfold bidi_blank.f level_Removed.f
 (repeat' split) <;> first|exact ⟨_,rfl⟩|(simp only [Option.bind_some];exact ⟨_,rfl⟩)
set_option maxHeartbeats 2000000 in
theorem bidi_Line.calls (A0:Option Addr) (c0:Nat) (l0:List S36) (A1:Option Addr) (c1:Nat) (l1:List Int) (a2:Int) (r:List Int) (w:World) (hr0:Kd.C k36 w A0 l0.length l0) (hc0:l0.length≤c0) (hr1:Kd.C (Kd.int .i64) w A1 l1.length l1) (hc1:l1.length≤c1) (h:bidi_Line.f l0 l1 a2=some r) :
  Calls Try.prog 31 #[.slice A0 l0.length c0,.slice A1 l1.length c1,.int .i64 a2] w fun e w'=> ∃ v0_:Value,e= .returned v0_∧Kd.R (Kd.int .i64) 3 w' w.heap.size (fun _=>True) v0_ r∧Below w.heap.size w w':=by
 unfold bidi_Line.f at h
 by_cases hl:l0.length=l1.length∧l0.length < 1000000
 ·
  rw [if_pos hl] at h
  obtain rfl:=Option.some.inj h
  clear h
  have HR0:=Am hr0
  have HC0:=Am hc0
  have HR1:=Am hr1
  have HC1:=Am hc1
  have HLL:=Am hl.1
  have HLT:=Am hl.2
  have HCL:=Am (show slices_Clone_int_int.f l1=some l1 from if_pos (by omega))
  have cq:((l0.length:Int) !=(l1.length:Int))=false:=bne_eq_false_iff_eq.mpr (by omega)
  clear hr0 hc0 hr1 hc1 hl
  refine (callsIn_wide (n:=6)).1 ?_
  refine callsIn_of_wp_marks Try.func31 rfl trivial ?_ rfl
  simp only [Try.ntmps31,List.size_toArray,List.length_cons,List.length_nil,Nat.reduceAdd,Nat.reduceSub,Array.replicate_succ,Array.replicate_zero,List.push_toArray,List.append_toArray,List.nil_append,List.cons_append]
  gi_wp2_with (first|(refine ⟨trivial,?_⟩;gi_at_call 47;refine (callsIn_wide.2 (slices_Clone_int_int.calls _ _ l1 l1 _ (Kd.C_alloc HR1.out _) HC1.out HCL.out)).mono ?_;rintro e w2 ⟨v,rfl,hv,hb2⟩;obtain ⟨Av,cv,rfl⟩:=Kd.R_slice hv;have n1_:=Am hv;have n2_:=Am hb2;clear hv hb2)|(refine ⟨trivial,?_⟩;gi_at_call 48;refine (callsIn_wide.2 (bidi_Line.bw_calls (.slice A0 l0.length c0) rfl _)).mono ?_;rintro e w3 ⟨rfl,rfl⟩))
  have hv:=n1_.out
  have hb2:=n2_.out
  rw [World.size_alloc] at hv
  have e5:=blk_below (blk_new w (.cells #[.int .i64 a2] 3 (0,0))) hb2
  have hBw:Below w.heap.size w w2:=below_step (below_alloc (Below.refl w.heap.size w) _) hb2
  have hlt2:w.heap.size < w2.heap.size:=blk_lt e5
  obtain ⟨W0,hW0⟩: ∃ W0,((w2.alloc (.cells #[.slice Av l1.length cv] 23)).alloc (.cells #[.bool true] 4)).alloc (.cells #[.slice A0 l0.length c0] 22)=W0:=⟨_,rfl⟩
  have hInv:bidi_Line.Inv w.heap.size w2.heap.size a2 (.slice Av l1.length cv) A0 l0.length c0 (l1,true) W0:=by
   rw [← hW0]
   refine ⟨blk_alloc (blk_alloc (blk_alloc e5 _) _) _,blk_alloc (blk_alloc (blk_new w2 _) _) _,?_,?_,Kd.R_alloc (Kd.R_alloc (Kd.R_alloc (Kd.R_mono (Kd.R_bound hv) (fun k hk=>⟨by have:=hk.2.1;omega,hk.2.2.1⟩)) _) _) _⟩
   ·
    have:=blk_alloc (blk_new (w2.alloc (.cells #[.slice Av l1.length cv] 23)) (.cells #[.bool true] 4 (0,0))) (.cells #[.slice A0 l0.length c0] 22)
    rwa [World.size_alloc] at this
   ·
    have:=blk_new ((w2.alloc (.cells #[.slice Av l1.length cv] 23)).alloc (.cells #[.bool true] 4)) (.cells #[.slice A0 l0.length c0] 22 (0,0))
    rwa [World.size_alloc,World.size_alloc] at this
  have hBW:Below w.heap.size w W0:=by rw [← hW0];exact below_alloc (below_alloc (below_alloc hBw _) _) _
  have hsz:W0.heap.size=w2.heap.size+1+1+1:=by rw [← hW0,World.size_alloc,World.size_alloc,World.size_alloc]
  rw [hW0]
  clear hW0 e5 hv hb2 n1_ n2_ hBw
  obtain ⟨bo,hbo⟩: ∃ bo,w.heap.size=bo:=⟨_,rfl⟩
  obtain ⟨b7,hb7⟩: ∃ b7,w2.heap.size=b7:=⟨_,rfl⟩
  rw [hbo,hb7] at hInv
  rw [hb7] at hsz
  rw [hbo,hb7] at hlt2
  rw [hbo,hb7]
  refine wpIn_rangeFunc_ownH (F:=Fence.wide) rfl (by omega) (gf:=74) (lb:= #[.pointer (some ⟨b7+1+1,0,none⟩)]) rfl trivial (enters_of Try.func74 TK rfl)
   (bidi_Line.stops (b7+1+1) w A0 c0 l0 HLT.out HR0 HC0 W0 hBW hInv.2.2.2.1) bidi_Line.KP_t (bidi_Line.KP_b (by omega) (by omega)) (Below.refl _ _) (fun _=>rfl)
   (fun pre W=>bidi_Line.Inv bo b7 a2 (.slice Av l1.length cv) A0 l0.length c0 (bidi_Line.all a2 l0 l1 pre) W∧Below bo w W)
   (fun _ _ _=>False)
   (OwnFrom.and (bidi_Line.own _ bo b7 a2 _ A0 l0.length c0 (fun pre=>bidi_Line.all a2 l0 l1 pre)) (ownFrom_below (by omega) (by omega)))
   (fun _ _ _ _ _ hs _ _=>hs)
   ⟨hInv,by rw [hbo] at hBW;exact hBW⟩
   (fun x a' W=> ∃ bx,b7+1+1 < bx∧a'={tmps:= #[Value.slice A0 l0.length c0,Value.slice A1 l1.length c1,Value.int IntKind.i64 a2,undef,undef,Value.pointer (some {block:=bo,off:=0}),Value.slice none 0 0,Value.pointer (some {block:=b7,off:=0}),Value.pointer (some {block:=b7+1,off:=0}),Value.int IntKind.i64 (x.val:Int),Value.pointer (some {block:=bx,off:=0}),undef,Value.slice A0 l0.length c0,Value.int IntKind.i64 (l0.length:Int),Value.slice A1 l1.length c1,Value.int IntKind.i64 (l1.length:Int),Value.bool false,Value.slice A1 l1.length c1,Value.slice Av l1.length cv,Value.slice A0 l0.length c0,Value.func (Fn.func 74) #[] #[Value.pointer (some {block:=b7+1+1,off:=0})],Value.int IntKind.i64 (x.val:Int),Value.agg #[Value.int IntKind.i64 (rd_T36 l0 (x.val:Int)).f0,Value.int IntKind.i64 (rd_T36 l0 (x.val:Int)).f1,Value.int IntKind.i64 (rd_T36 l0 (x.val:Int)).f2],undef,undef,undef,undef,undef,undef,undef,undef,undef,undef,undef,undef,undef,undef,undef,undef,undef,undef,undef,undef,undef,undef],defers:=[]}∧W.heap[bx]?=some (.cells #[Value.int IntKind.i64 (rd_T36 l0 (x.val:Int)).f0,Value.int IntKind.i64 (rd_T36 l0 (x.val:Int)).f1,Value.int IntKind.i64 (rd_T36 l0 (x.val:Int)).f2] 36 (0,0)))
   (fun x a' s X Y row hs hg hr=>by
    obtain ⟨bx,h0,h1,h2⟩:=hs
    exact ⟨bx,h0,h1,blk_grown h2 hg (bidi_Line.row hr _ ⟨_,_,h2⟩)⟩)
   ?assign ?body ?done ?stop
  case assign =>
   rintro l_ pre x W K ⟨⟨i5,i7,i8,i9,iR⟩,hB⟩ hK
   dsimp only [bidi_Line.enc] at hK ⊢
   gi_wp2
   exact hK _ _ ((KeepsOthers.alloc W _).from _) ⟨(Below.refl _ _).alloc (by have:=blk_lt i9;omega) _,fun o ho=>blk_alloc ho _⟩ ⟨⟨blk_alloc i5 _,blk_alloc i7 _,blk_alloc i8 _,blk_alloc i9 _,Kd.R_alloc iR _⟩,hB.trans ((Below.refl _ _).alloc (by have:=blk_lt i9;omega) _)⟩ ⟨W.heap.size,blk_lt i9,rfl,blk_new W _⟩
  case body =>
   rintro l_ pre x a' W hlw ⟨r,hr⟩ ⟨hI,hB⟩ ⟨bx,hbx,rfl,hx⟩ hlt
   have hol:=bidi_Line.all_len a2 l0 l1 pre
   refine wpIn_mono (Q:=bidi_Line.post W0.heap.size bo b7 a2 (.slice Av l1.length cv) A0 l0.length c0 (bidi_Line.add a2 l0 (bidi_Line.all a2 l0 l1 pre) x) W) ?_ (fun e a2 W2 h=>by
    cases e with
    | normal =>
     obtain ⟨h1,h2,h3,h4⟩:=h
     exact ⟨h1,⟨by rw [hbo];exact h2,h3⟩,⟨by rw [bidi_Line.all_snoc];exact h4,hB.trans h2⟩⟩
    | ret=>exact h.elim
    | exit=>exact h.elim
    | goto=>exact h.elim
    | panic=>exact h.elim
    | outgrown=>exact h.elim)
   generalize bidi_Line.all a2 l0 l1 pre=s at hI hol ⊢
   obtain ⟨out,e⟩:=s
   dsimp only at hol
   have hxl:=x.isLt
   obtain ⟨res,hres⟩: ∃ res,bidi_Line.add a2 l0 (out,e) x=res:=⟨_,rfl⟩
   rw [hres]
   unfold bidi_Line.add at hres
   obtain ⟨ii,hii⟩: ∃ ii:Int,(x.val:Int)=ii:=⟨_,rfl⟩
   obtain ⟨xn,hxn⟩: ∃ xn:Nat,x.val=xn:=⟨_,rfl⟩
   rw [hxn] at hii hxl
   rw [hxn,hii] at hx hres
   rw [hxn,hii]
   generalize rd_T36 l0 ii=y at hx hres ⊢
   obtain ⟨f0,f1,f2⟩:=y
   dsimp only at hx hres ⊢
   obtain ⟨ci,hci⟩: ∃ ci,class_Of.val f2=ci:=⟨_,rfl⟩
   rw [hci] at hres
   have HCL2:=Am (show class_Of.f f2=some ci by unfold class_Of.f;rw [hci])
   obtain ⟨bl,hbl⟩:=bidi_Line.blank_some ci
   rw [hbl,Option.getD_some] at hres
   have HRES:=Am hres
   have HBL:=Am hbl
   have hi0:0≤ii:=by omega
   have hi1:ii < (l1.length:Int):=by have:=HLL.out;omega
   have HXN:=Am (show ii.toNat=xn by omega)
   have HL1:=Am (show out.length=l1.length from hol)
   have HB:=Am hB
   have HI:=Am hI
   have HLT2:=Am hlt2
   have HSZ:=Am (show bo≤W.heap.size by have:=blk_lt hI.1;omega)
   have y2:W.cell? ⟨bx,2,none⟩=some (.int .i64 f2):=(blk_cell hx 2).trans rfl
   clear hI hB hol hxl hii hxn hci hbl hlt hx hbx hr hlw hInv hBW hsz hlt2 hres
   gi_upto_region 9 with (refine ⟨trivial,?_⟩;gi_at_call 49;refine (calls_inR (class_Of.calls f2 ci _ HCL2.out)).mono ?_;rintro e3 W3 ⟨rfl,hb3⟩;have n3_:=Am hb3;clear hb3)
   have HI3:=Am (bidi_Line.below_inv HI.out n3_.out)
   have HK3:=Am (show KeepsOthers W W3 from KeepsOthers.of_grownBy (grown_of_below n3_.out none) (fun j o hj _=>by cases hj))
   have HB3:=Am (show Below bo W W3 from n3_.out.mono HSZ.out)
   have HP3:=Am (show ∀ o,W.heap[b7+1+1]?=some o→W3.heap[b7+1+1]?=some o from fun o ho=>blk_below ho n3_.out)
   have y8:W3.cell? ⟨b7+1,0,none⟩=some (.bool e):=(blk_cell HI3.out.2.2.1 0).trans rfl
   have z8:W3.frozen? ⟨b7+1,0,none⟩=false:=blk_frozen HI3.out.2.2.1 0
   clear HI y2 n3_ HCL2
   have split5:(ci=11)∨(ci≠11∧ci=10)∨(ci≠11∧ci≠10∧e=false)∨(ci≠11∧ci≠10∧e=true∧bl=true)∨(ci≠11∧ci≠10∧e=true∧bl=false):=by
    by_cases k1:ci=11
    ·
     exact .inl k1
    by_cases k2:ci=10
    ·
     exact .inr (.inl ⟨k1,k2⟩)
    cases e
    ·
     exact .inr (.inr (.inl ⟨k1,k2,rfl⟩))
    cases bl
    ·
     exact .inr (.inr (.inr (.inr ⟨k1,k2,rfl,rfl⟩)))
    ·
     exact .inr (.inr (.inr (.inl ⟨k1,k2,rfl,rfl⟩)))
   rcases split5 with rfl|⟨k1,rfl⟩|⟨k1,k2,rfl⟩|⟨k1,k2,rfl,rfl⟩|⟨k1,k2,rfl,rfl⟩
   ·
    have hE:=HRES.out
    simp only [decide_true,Bool.true_or,if_true] at hE
    refine region_inR TK (fun _ _ h=>h) ?_
    go_wp2
    have E0:=bidi_Line.ends0 W0.heap.size HK3.out HB3.out HP3.out HI3.out HLT2.out true
    obtain ⟨W4,hW4⟩: ∃ W4,W3.setCell ⟨b7+1,0,none⟩ (.bool true)=W4:=⟨_,rfl⟩
    rw [hW4] at E0
    rw [hW4]
    have hR4:=E0.2.2.2.2.2.2.2
    dsimp only at hR4
    obtain ⟨g,cap,hvv,_,_,_⟩:=Kd.R_form hR4 (by have:=HL1.out;omega)
    injection hvv with q1 _ q3
    subst q1 q3
    have hg:=hR4.1 g (by simp [Value.ownBlock])
    have y7:W4.cell? ⟨b7,0,none⟩=some (.slice (some ⟨g,0,none⟩) l1.length cv):=(blk_cell E0.2.2.2.2.1 0).trans rfl
    have y9:W4.cell? ⟨b7+1,0,none⟩=some (.bool true):=(blk_cell E0.2.2.2.2.2.1 0).trans rfl
    have y5:W4.cell? ⟨bo,0,none⟩=some (.int .i64 a2):=(blk_cell E0.2.2.2.1 0).trans rfl
    obtain ⟨ya,za⟩:=Kd.R_celln (0:Int) hR4 ii hi0 hi1
    have E1:=Am (bidi_Line.ends1 E0 hg ii)
    rw [← HXN.out] at hE
    have HE:=Am hE
    clear E0 hW4 hR4 hg y8 z8 hE
    gi_wp2
    have E2:=E1.out
    rw [HE.out] at E2
    exact E2
   ·
    have hE:=HRES.out
    simp only [decide_true,Bool.or_true,Bool.true_or,if_true] at hE
    refine region_inR TK (fun _ _ h=>h) ?_
    go_wp2
    have E0:=bidi_Line.ends0 W0.heap.size HK3.out HB3.out HP3.out HI3.out HLT2.out true
    obtain ⟨W4,hW4⟩: ∃ W4,W3.setCell ⟨b7+1,0,none⟩ (.bool true)=W4:=⟨_,rfl⟩
    rw [hW4] at E0
    rw [hW4]
    have hR4:=E0.2.2.2.2.2.2.2
    dsimp only at hR4
    obtain ⟨g,cap,hvv,_,_,_⟩:=Kd.R_form hR4 (by have:=HL1.out;omega)
    injection hvv with q1 _ q3
    subst q1 q3
    have hg:=hR4.1 g (by simp [Value.ownBlock])
    have y7:W4.cell? ⟨b7,0,none⟩=some (.slice (some ⟨g,0,none⟩) l1.length cv):=(blk_cell E0.2.2.2.2.1 0).trans rfl
    have y9:W4.cell? ⟨b7+1,0,none⟩=some (.bool true):=(blk_cell E0.2.2.2.2.2.1 0).trans rfl
    have y5:W4.cell? ⟨bo,0,none⟩=some (.int .i64 a2):=(blk_cell E0.2.2.2.1 0).trans rfl
    obtain ⟨ya,za⟩:=Kd.R_celln (0:Int) hR4 ii hi0 hi1
    have E1:=Am (bidi_Line.ends1 E0 hg ii)
    rw [← HXN.out] at hE
    have HE:=Am hE
    clear E0 hW4 hR4 hg y8 z8 hE
    gi_wp2
    have E2:=E1.out
    rw [HE.out] at E2
    exact E2
   ·
    have hE:=HRES.out
    have b1:(ci==11)=false:=beq_eq_false_iff_ne.mpr k1
    have b2:(ci==10)=false:=beq_eq_false_iff_ne.mpr k2
    simp only [decide_eq_false k1,decide_eq_false k2,Bool.false_and,Bool.or_false,Bool.false_eq_true,if_false] at hE
    refine region_inR TK (fun _ _ h=>h) ?_
    go_wp2
    have E0:=Am (bidi_Line.ends0 W0.heap.size HK3.out HB3.out HP3.out HI3.out HLT2.out false)
    obtain ⟨W4,hW4⟩: ∃ W4,W3.setCell ⟨b7+1,0,none⟩ (.bool false)=W4:=⟨_,rfl⟩
    rw [hW4] at E0
    rw [hW4]
    have y9:W4.cell? ⟨b7+1,0,none⟩=some (.bool false):=(blk_cell E0.out.2.2.2.2.2.1 0).trans rfl
    have HE:=Am hE
    clear hW4 y8 z8 hE
    gi_wp2
    have E2:=E0.out
    rw [HE.out] at E2
    exact E2
   ·
    have hE:=HRES.out
    have b1:(ci==11)=false:=beq_eq_false_iff_ne.mpr k1
    have b2:(ci==10)=false:=beq_eq_false_iff_ne.mpr k2
    simp only [decide_eq_false k1,decide_eq_false k2,Bool.true_and,Bool.false_or,if_true] at hE
    refine region_inR TK (fun _ _ h=>h) ?_
    go_wp2_with (first|((with_reducible refine gate_callee (f:=50) rfl ?_);(try (refine gate_guard (by rfl) ?_;dsimp only));refine goesL_ (some 36) rfl rfl Try.func50 TK rfl #[.int .i64 ci] rfl (by (try simp only [List.map_toArray,List.map_cons,List.map_nil]);first|done|rfl) ?_;(with_reducible refine (bidi_blank.calls ci _ _ HBL.out).mono ?_);rintro e4 W4 ⟨rfl,⟨nd,rfl⟩⟩;refine ⟨_,rfl,?_⟩))
    have E0:=bidi_Line.ends0 (W3:=W3.drewN nd) W0.heap.size (HK3.out.trans ⟨Nat.le_refl _,fun _ _ h _=>h⟩) (pw_below_drewN HB3.out nd) HP3.out (bidi_Line.below_inv HI3.out (pw_below_drewN (Below.refl W3.heap.size W3) nd)) HLT2.out true
    obtain ⟨W4,hW4⟩: ∃ W4,(W3.drewN nd).setCell ⟨b7+1,0,none⟩ (.bool true)=W4:=⟨_,rfl⟩
    rw [hW4] at E0
    rw [hW4]
    have hR4:=E0.2.2.2.2.2.2.2
    dsimp only at hR4
    obtain ⟨g,cap,hvv,_,_,_⟩:=Kd.R_form hR4 (by have:=HL1.out;omega)
    injection hvv with q1 _ q3
    subst q1 q3
    have hg:=hR4.1 g (by simp [Value.ownBlock])
    have y7:W4.cell? ⟨b7,0,none⟩=some (.slice (some ⟨g,0,none⟩) l1.length cv):=(blk_cell E0.2.2.2.2.1 0).trans rfl
    have y9:W4.cell? ⟨b7+1,0,none⟩=some (.bool true):=(blk_cell E0.2.2.2.2.2.1 0).trans rfl
    have y5:W4.cell? ⟨bo,0,none⟩=some (.int .i64 a2):=(blk_cell E0.2.2.2.1 0).trans rfl
    obtain ⟨ya,za⟩:=Kd.R_celln (0:Int) hR4 ii hi0 hi1
    have E1:=Am (bidi_Line.ends1 E0 hg ii)
    rw [← HXN.out] at hE
    have HE:=Am hE
    clear E0 hW4 hR4 hg y8 z8 hE
    gi_wp2
    have E2:=E1.out
    rw [HE.out] at E2
    exact E2
   ·
    have hE:=HRES.out
    have b1:(ci==11)=false:=beq_eq_false_iff_ne.mpr k1
    have b2:(ci==10)=false:=beq_eq_false_iff_ne.mpr k2
    simp only [decide_eq_false k1,decide_eq_false k2,Bool.and_false,Bool.or_false,Bool.false_eq_true,if_false] at hE
    refine region_inR TK (fun _ _ h=>h) ?_
    go_wp2_with (first|((with_reducible refine gate_callee (f:=50) rfl ?_);(try (refine gate_guard (by rfl) ?_;dsimp only));refine goesL_ (some 36) rfl rfl Try.func50 TK rfl #[.int .i64 ci] rfl (by (try simp only [List.map_toArray,List.map_cons,List.map_nil]);first|done|rfl) ?_;(with_reducible refine (bidi_blank.calls ci _ _ HBL.out).mono ?_);rintro e4 W4 ⟨rfl,⟨nd,rfl⟩⟩;refine ⟨_,rfl,?_⟩))
    have E0:=Am (bidi_Line.ends0 (W3:=W3.drewN nd) W0.heap.size (HK3.out.trans ⟨Nat.le_refl _,fun _ _ h _=>h⟩) (pw_below_drewN HB3.out nd) HP3.out (bidi_Line.below_inv HI3.out (pw_below_drewN (Below.refl W3.heap.size W3) nd)) HLT2.out false)
    obtain ⟨W4,hW4⟩: ∃ W4,(W3.drewN nd).setCell ⟨b7+1,0,none⟩ (.bool false)=W4:=⟨_,rfl⟩
    rw [hW4] at E0
    rw [hW4]
    have y9:W4.cell? ⟨b7+1,0,none⟩=some (.bool false):=(blk_cell E0.out.2.2.2.2.2.1 0).trans rfl
    have HE:=Am hE
    clear hW4 y8 z8 hE
    gi_wp2
    have E2:=E0.out
    rw [HE.out] at E2
    exact E2
  case done =>
   rintro D xs W hD rfl ⟨⟨i5,i7,i8,i9,iR⟩,hB⟩ hK
   have hc:=(blk_cell i7 0).trans rfl
   have hR:=Kd.R_grown (Kd.R_bound iR) (grownBy_putObj' W D (.deferred none)) (fun k hk e=>by
    obtain ⟨q,_,cells,hc2⟩:=hk.2.2.2
    injection e with e
    rw [e,hK] at hc2
    cases hc2)
   rw [bidi_Line.all_go a2 l0 l1 HLL.out] at hR
   have RR:=Am hR
   have BB:=Am hB
   clear i5 i7 i8 i9 iR hB hR
   gi_wp2
   refine ⟨by simp,.inl ⟨_,_,rfl,run_takeDeferred hK,?_⟩⟩
   exact ⟨_,results_tmp rfl _ _ _,_,rfl,by rw [hbo];exact Kd.R_mono (Kd.R_lower RR.out (Nat.le_succ bo)) (fun _ _=>trivial),by rw [hbo];exact BB.out.trans (belowK_b (w:=w) (by omega) _ D _ _ (by omega) hK rfl rfl)⟩
  case stop =>
   rintro D c pre W _ _ h _
   exact h.elim
 ·
  rw [if_neg hl] at h
  cases h
end
end Go.Proofs.Yteoaegigjlhamaa.PC19
