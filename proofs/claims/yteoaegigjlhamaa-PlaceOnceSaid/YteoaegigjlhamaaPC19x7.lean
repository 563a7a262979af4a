/- For the laws of the group C19: the Lean functions that the Go functions compute, and proofs that they do. Written by wip/hprint.py of this repo over the kit's printer; nothing here is trusted: Lean checks it. -/
import Derived.Test.YteoaegigjlhamaaPC19x0
namespace Go.Proofs.Yteoaegigjlhamaa.PC19
open Go.RowKit Go.Proofs.YteoaegigjlhamaaW.PrintWords Go.Proofs.YteoaegigjlhamaaW.PrintLast Go.Proofs.YteoaegigjlhamaaW.PrintMore
attribute [local go_sem] max2_int min2_int max_two min_two max_three min_three max_four min_four
set_option linter.unusedVariables false
set_option linter.unusedSimpArgs false
/-! ### slices_Clone_int_int:function 47:by hand -/
def slices_Clone_int_int.f (l0:List Int):Option (List Int):=if l0.length < 1000000 then some l0 else none
section
open Go.Proofs.YteoaegigjlhamaaH
theorem slices_Clone_int_int.nil1 (n c:Nat) (W:World):(binOp .eql 23 (.slice none n c) (.slice none 0 0)).run Try.prog W= .ok (.bool true) W:=by kernel_rfl
theorem slices_Clone_int_int.nil2 (a:Addr) (n c:Nat) (W:World):(binOp .eql 23 (.slice (some a) n c) (.slice none 0 0)).run Try.prog W= .ok (.bool false) W:=by kernel_rfl
set_option maxHeartbeats 2000000 in
set_option maxRecDepth 100000 in
theorem slices_Clone_int_int.calls (A0:Option Addr) (c0:Nat) (l0:List Int) (r:List Int) (w:World) (hr0:Kd.C (Kd.int .i64) w A0 l0.length l0) (hc0:l0.length≤c0) (h:slices_Clone_int_int.f l0=some r) :
  Calls Try.prog 47 #[.slice A0 l0.length c0] w fun e w'=> ∃ v0_:Value,e= .returned v0_∧Kd.R (Kd.int .i64) 3 w' w.heap.size (fun _=>True) v0_ r∧Below w.heap.size w w':=by
 unfold slices_Clone_int_int.f at h
 split at h
 rotate_left
 ·
  cases h
 rename_i hl
 obtain rfl:=Option.some.inj h
 have HR0:=Aside0.mk hr0
 have HB:=Aside0.mk (Below.refl w.heap.size w)
 clear hr0 h
 have hq1:=slices_Clone_int_int.nil1
 have hq2:=slices_Clone_int_int.nil2
 cases A0 with
 | none =>
  have hz:l0=[]:=by
   rcases Nat.eq_zero_or_pos l0.length with h0|h0
   ·
    exact List.eq_nil_of_length_eq_zero h0
   ·
    obtain ⟨ad,e,_⟩:=HR0.out.2.2 h0
    cases e
  subst hz
  go_enter Try.func47,Try.ntmps47
  go_wp2
  go_ret
  exact ⟨_,rfl,Kd.R_nil _ _ _ _ _,HB.out⟩
 | some ad =>
  go_enter Try.func47,Try.ntmps47
  go_wp2_with (first|((with_reducible refine gate_dst (N:=5) rfl ?_);refine Kd.R_lit (Kd.int .i64) (w0:=w) w.heap.size 3 ?hg (N:=5) ?hd (xs:=([]:List Int)) (inner:=[]) (ok:=fun _=>True) (okp:=fun _=>True) ?hr ?hp (fun _ hk=>hk) trivial HB.out HB.out.size (by simp) ?_;(case hd=>rfl);(case hg=>rfl);(case hr=>first|(go_simp;done)|(go_simp;rfl));(case hp=>exact (Reps.none _ _));intro v0 w0 ho0 hb0_ hg0 hnew0;have HE0:=Aside0.mk ho0;have HB0:=Aside0.mk hb0_;clear ho0 hb0_ hg0 hnew0)|((with_reducible refine gate_builtin (b:= .append) (xs:= #[.tmp 5,.tmp 6]) rfl ?_);at_builtin;refine Kd.R_append_rows (Kd.int .i64) (w0:=w) w.heap.size rfl (.tmp 5) (.tmp 6) 23 3 (.int .i64 0) 8 rfl Try.underlying23 info3 rfl (by decide) (by omega) v0 [] l0 _ _ _ (fun _=>True) (fun _=>False) rfl rfl HE0.out (Kd.C_below HR0.out HB0.out) (fun _ _ h=>h) (fun _ h=>h.elim) (fun _ _=>trivial) HB0.out HB0.out.size (by simp;omega) ?_;intro v_ w1 ho hb1 hg1 hat;rw [List.nil_append] at ho;have n0_:=Aside0.mk ho;have n1_:=Aside0.mk hb1;clear ho hb1 hg1 hat))
  go_ret
  exact ⟨_,rfl,n0_.out,n1_.out⟩
end
/-! ### class_spans:function 75:by hand -/
def class_spans.L:List S117:=[(⟨0,8,9⟩:S117),(⟨9,9,11⟩:S117),(⟨10,10,10⟩:S117),(⟨11,11,11⟩:S117),(⟨12,12,12⟩:S117),(⟨13,13,10⟩:S117),(⟨14,27,9⟩:S117),(⟨28,30,10⟩:S117),(⟨31,31,11⟩:S117),(⟨32,32,12⟩:S117),(⟨33,34,13⟩:S117),(⟨35,37,5⟩:S117),(⟨38,42,13⟩:S117),(⟨43,43,4⟩:S117),(⟨44,44,7⟩:S117),(⟨45,45,4⟩:S117),(⟨46,47,7⟩:S117),(⟨48,57,3⟩:S117),(⟨58,58,7⟩:S117),(⟨59,64,13⟩:S117),(⟨91,96,13⟩:S117),(⟨123,126,13⟩:S117),(⟨127,132,9⟩:S117),(⟨133,133,10⟩:S117),(⟨134,159,9⟩:S117),(⟨160,160,7⟩:S117),(⟨161,161,13⟩:S117),(⟨162,165,5⟩:S117),(⟨166,169,13⟩:S117),(⟨171,172,13⟩:S117),(⟨173,173,9⟩:S117),(⟨174,175,13⟩:S117),(⟨176,177,5⟩:S117),(⟨178,179,3⟩:S117),(⟨180,180,13⟩:S117),(⟨182,184,13⟩:S117),(⟨185,185,3⟩:S117),(⟨187,191,13⟩:S117),(⟨215,215,13⟩:S117),(⟨247,247,13⟩:S117),(⟨768,879,8⟩:S117),(⟨1155,1161,8⟩:S117),(⟨1423,1423,5⟩:S117),(⟨1424,1424,1⟩:S117),(⟨1425,1469,8⟩:S117),(⟨1470,1470,1⟩:S117),(⟨1471,1471,8⟩:S117),(⟨1472,1472,1⟩:S117),(⟨1473,1474,8⟩:S117),(⟨1475,1475,1⟩:S117),(⟨1476,1477,8⟩:S117),(⟨1478,1478,1⟩:S117),(⟨1479,1479,8⟩:S117),(⟨1480,1535,1⟩:S117),(⟨1536,1541,6⟩:S117),(⟨1542,1543,13⟩:S117),(⟨1544,1544,2⟩:S117),(⟨1545,1546,5⟩:S117),(⟨1547,1547,2⟩:S117),(⟨1548,1548,7⟩:S117),(⟨1549,1549,2⟩:S117),(⟨1550,1551,13⟩:S117),(⟨1552,1562,8⟩:S117),(⟨1563,1610,2⟩:S117),(⟨1611,1631,8⟩:S117),(⟨1632,1641,6⟩:S117),(⟨1642,1642,5⟩:S117),(⟨1643,1644,6⟩:S117),(⟨1645,1647,2⟩:S117),(⟨1648,1648,8⟩:S117),(⟨1649,1749,2⟩:S117),(⟨1750,1756,8⟩:S117),(⟨1757,1757,6⟩:S117),(⟨1758,1758,13⟩:S117),(⟨1759,1764,8⟩:S117),(⟨1765,1766,2⟩:S117),(⟨1767,1768,8⟩:S117),(⟨1769,1769,13⟩:S117),(⟨1770,1773,8⟩:S117),(⟨1774,1775,2⟩:S117),(⟨1776,1785,3⟩:S117),(⟨1786,1791,2⟩:S117),(⟨1872,1919,2⟩:S117),(⟨2274,2274,6⟩:S117),(⟨2364,2364,8⟩:S117),(⟨2369,2376,8⟩:S117),(⟨2381,2381,8⟩:S117),(⟨5760,5760,12⟩:S117),(⟨8192,8202,12⟩:S117),(⟨8203,8205,9⟩:S117),(⟨8207,8207,1⟩:S117),(⟨8208,8231,13⟩:S117),(⟨8232,8232,12⟩:S117),(⟨8233,8233,10⟩:S117),(⟨8234,8234,14⟩:S117),(⟨8235,8235,16⟩:S117),(⟨8236,8236,18⟩:S117),(⟨8237,8237,15⟩:S117),(⟨8238,8238,17⟩:S117),(⟨8239,8239,7⟩:S117),(⟨8240,8244,5⟩:S117),(⟨8245,8259,13⟩:S117),(⟨8260,8260,7⟩:S117),(⟨8261,8286,13⟩:S117),(⟨8287,8287,12⟩:S117),(⟨8288,8293,9⟩:S117),(⟨8294,8294,19⟩:S117),(⟨8295,8295,20⟩:S117),(⟨8296,8296,21⟩:S117),(⟨8297,8297,22⟩:S117),(⟨8298,8303,9⟩:S117),(⟨8304,8304,3⟩:S117),(⟨8308,8313,3⟩:S117),(⟨8314,8315,4⟩:S117),(⟨8316,8318,13⟩:S117),(⟨8320,8329,3⟩:S117),(⟨8330,8331,4⟩:S117),(⟨8332,8334,13⟩:S117),(⟨8352,8399,5⟩:S117),(⟨8400,8432,8⟩:S117),(⟨8592,8721,13⟩:S117),(⟨8722,8722,4⟩:S117),(⟨8723,8723,5⟩:S117),(⟨8724,9013,13⟩:S117),(⟨9352,9371,3⟩:S117),(⟨9472,9899,13⟩:S117),(⟨9901,10239,13⟩:S117),(⟨11904,11929,13⟩:S117),(⟨12288,12288,12⟩:S117),(⟨12289,12292,13⟩:S117),(⟨12296,12320,13⟩:S117),(⟨12330,12333,8⟩:S117),(⟨12336,12336,13⟩:S117),(⟨12441,12442,8⟩:S117),(⟨64285,64285,1⟩:S117),(⟨64286,64286,8⟩:S117),(⟨64287,64296,1⟩:S117),(⟨64297,64297,4⟩:S117),(⟨64298,64335,1⟩:S117),(⟨65024,65039,8⟩:S117),(⟨65056,65071,8⟩:S117),(⟨65104,65104,7⟩:S117),(⟨65106,65106,7⟩:S117),(⟨65109,65109,7⟩:S117),(⟨65119,65119,5⟩:S117),(⟨65122,65123,4⟩:S117),(⟨65129,65130,5⟩:S117),(⟨65136,65278,2⟩:S117),(⟨65279,65279,9⟩:S117),(⟨65281,65282,13⟩:S117),(⟨65283,65285,5⟩:S117),(⟨65286,65290,13⟩:S117),(⟨65291,65291,4⟩:S117),(⟨65292,65292,7⟩:S117),(⟨65293,65293,4⟩:S117),(⟨65294,65295,7⟩:S117),(⟨65296,65305,3⟩:S117),(⟨65306,65306,7⟩:S117),(⟨65307,65312,13⟩:S117),(⟨65339,65344,13⟩:S117),(⟨65371,65381,13⟩:S117),(⟨65504,65505,5⟩:S117),(⟨65509,65510,5⟩:S117),(⟨65529,65533,13⟩:S117),(⟨127744,128591,13⟩:S117),(⟨917760,917999,8⟩:S117)]
def class_spans.f:Option (List S117):=some class_spans.L
def class_spans.vals:List Value:=class_spans.L.map fun r=> .agg #[.int .i64 r.f0,.int .i64 r.f1,.int .i64 r.f2]
section
open Go.Proofs.YteoaegigjlhamaaH
theorem class_spans.reps {M:S117→List Value→Prop} (h: ∀ x:S117,M x [.int .i64 x.f0,.int .i64 x.f1,.int .i64 x.f2]): ∀ l:List S117,Reps M 3 l ((l.map fun r=>Value.agg #[.int .i64 r.f0,.int .i64 r.f1,.int .i64 r.f2]).flatMap fun v=>v.cells.toList)
 | []=>Reps.none _ _
 | x::l=>Reps.c3 (h x) (class_spans.reps h l)
set_option maxHeartbeats 4000000 in
set_option maxRecDepth 100000 in
theorem class_spans.calls (r:List S117) (w:World) (h:class_spans.f=some r) :
  Calls Try.prog 75 #[] w fun e w'=> ∃ v0_:Value,e= .returned (v0_)∧Kd.R k117 117 w' w.heap.size (fun _=>True) v0_ r∧Below w.heap.size w w':=by
 obtain rfl:class_spans.L=r:=Option.some.inj h
 clear h
 go_enter Try.func75,Try.ntmps75
 refine wp_seq (wp_region_list ?_)
 refine Kd.event_run (w1:=w) (v:= .slice none 0 0) rfl rfl ?_
 refine wpList_nil (wp_seq (wp_region_list ?_))
 refine builds_slice 166 _ (o:=_) (rest:=_) rfl k117 w.heap.size 117 rfl (N:=167) rfl 113 166 _ rfl class_spans.vals class_spans.L 168 (by kernel_rfl) (by kernel_rfl) (by decide) rfl (by kernel_rfl) Try.underlying113 (by kernel_rfl) (by kernel_rfl) (by decide +kernel) (by decide +kernel) (by decide) (by decide) (by decide) (fun v hv=>by unfold class_spans.vals at hv;obtain ⟨x,_,rfl⟩:=List.mem_map.1 hv;rfl) (class_spans.reps (fun x=>k117_mkM _ _ _ x) _) (Below.refl _ _) (Nat.le_refl _) ?_
 intro b v1 w1 hsz hdf hR hB
 refine Kd.event_run (w1:=w1) (v:=v1) rfl (by simp [execOp,put_eval b 167 v1 (by rw [hsz];decide)]) ?_
 refine wpList_nil (wp_ret ?_)
 refine bodyPost_ret (v:=v1) ((results_tmp rfl _ _ _).trans ?_) ?_ ⟨v1,rfl,hR,hB⟩
 ·
  simp [Act.put,hsz]
 ·
  simp [Act.put,hdf]
end
/-! ### class_Of:function 49:by hand -/
def class_Of.cells (r:S117):List Value:=[.int .i64 r.f0,.int .i64 r.f1,.int .i64 r.f2]
def class_Of.spn:List S117→Int→Int
 | [],_=>0
 | r::l,c=>if r.f1 < c then class_Of.spn l c else if c < r.f0 then 0 else r.f2
def class_Of.val (c:Int):Int:=class_Of.spn class_spans.L c
def class_Of.f (a0:Int):Option Int:=some (class_Of.val a0)
section
open Go.Proofs.YteoaegigjlhamaaH
def class_Of.side (r:S117) (c:Int):Int:=if r.f1 < c then -1 else if c < r.f0 then 1 else 0
theorem class_Of.cmp (f t k c:Int) (W:World):Calls Try.prog 77 #[.agg #[.int .i64 f,.int .i64 t,.int .i64 k],.int .i64 c] W fun e w'=>e= .returned (.int .i64 (class_Of.side (⟨f,t,k⟩:S117) c))∧Below W.heap.size W w':=by
 unfold class_Of.side
 by_cases h1:t < c
 ·
  rw [if_pos h1]
  have b1:decide (t < c)=true:=decide_eq_true h1
  clear h1
  go_enter Try.func77,Try.ntmps77
  go_wp2
  go_ret
  exact ⟨rfl,below_alloc (Below.refl _ _) _⟩
 ·
  rw [if_neg h1]
  have b1:decide (t < c)=false:=decide_eq_false h1
  clear h1
  by_cases h2:c < f
  ·
   rw [if_pos h2]
   have b2:decide (c < f)=true:=decide_eq_true h2
   clear h2
   go_enter Try.func77,Try.ntmps77
   go_wp2
   go_ret
   exact ⟨rfl,below_alloc (Below.refl _ _) _⟩
  ·
   rw [if_neg h2]
   have b2:decide (c < f)=false:=decide_eq_false h2
   clear h2
   go_enter Try.func77,Try.ntmps77
   go_wp2
   go_ret
   exact ⟨rfl,below_alloc (Below.refl _ _) _⟩
def class_Of.SPost (S:Nat→Int) (n:Nat) (w:World) (e:Ending) (w':World):Prop :=
 ∃ q:Nat,e= .returned (.tuple #[.int .i64 (q:Int),.bool (decide (q < n∧S q=0))])∧Below w.heap.size w w'∧q≤n∧((∀ a b,a≤b→b < n→S b < 0→S a < 0)→(∀ t,t < q→S t < 0)∧(∀ t,q≤t→t < n→0≤S t))
set_option maxHeartbeats 1000000 in
set_option maxRecDepth 100000 in
theorem class_Of.search (R:Nat→S117) (S:Nat→Int) (g c n:Nat) (y:Int) (w:World) (hg:g < w.heap.size) (hc: ∀ j,j < n→ ∀ (k:Nat) v,(class_Of.cells (R j))[k]?=some v→w.cell? ⟨g,j * 3+k,none⟩=some v) (hlen:n < 1000000)
  (hS: ∀ j,j < n→ ∀ W:World,Calls Try.prog 77 #[.agg #[.int .i64 (R j).f0,.int .i64 (R j).f1,.int .i64 (R j).f2],.int .i64 y] W fun e w'=>e= .returned (.int .i64 (S j))∧Below W.heap.size W w') :
  Calls Try.prog 76 #[.slice (some ⟨g,0,none⟩) n c,.int .i64 y,.func (.func 77) #[] #[]] w (class_Of.SPost S n w):=by
 have eg: ∀ args w,(callFunc 77 args).run Try.prog w= .ok (.enter 77 args) w:=enters_of Try.func77 (by kernel_rfl) rfl
 have HC:=Aside0.mk hc
 have HSC:=Aside0.mk hS
 have HG:=Aside0.mk hg
 have HB0:=Aside0.mk (Below.refl w.heap.size w)
 clear hc hS hg
 go_enter Try.func76,Try.ntmps76
 go_wp2
 go_loopg [9,10] n (fun kx s9 s10 wr=> ∃ lo hi:Nat,s9= .int .i64 lo∧s10= .int .i64 hi∧lo≤hi∧hi≤n∧hi - lo≤kx∧Aside0 (Below w.heap.size w wr)∧Aside0 ((∀ a b,a≤b→b < n→S b < 0→S a < 0)→(∀ t,t < lo→S t < 0)∧(∀ t,hi≤t→t < n→0≤S t)))
 case atStart=>exact ⟨0,n,rfl,rfl,Nat.zero_le _,Nat.le_refl _,by omega,HB0,⟨fun _=>⟨fun t ht=>absurd ht (Nat.not_lt_zero _),fun t h1 h2=>by omega⟩⟩⟩
 case round =>
  clear HB0
  obtain ⟨lo,hi,rfl,rfl,hlh,hin,hk,HB,I⟩:=hrel
  by_cases hlt:lo < hi
  ·
   have cm: ∀ (k:Nat) v,(class_Of.cells (R ((lo+hi) / 2)))[k]?=some v→wr.cell? ⟨g,(lo+hi) / 2 * 3+k,none⟩=some v:=fun k v h=>(HB.out.cell (p:=⟨g,(lo+hi) / 2 * 3+k,none⟩) HG.out).trans (HC.out _ (by omega) k v h)
   have hsm:=HSC.out ((lo+hi) / 2) (by omega)
   rcases hv:R ((lo+hi) / 2) with ⟨rf,rt,rk⟩
   rw [hv] at cm hsm
   have cm0:wr.cell? ⟨g,(lo+hi) / 2 * 3,none⟩=some (.int .i64 rf):=cm 0 _ rfl
   have cm1:wr.cell? ⟨g,(lo+hi) / 2 * 3+1,none⟩=some (.int .i64 rt):=cm 1 _ rfl
   have cm2:wr.cell? ⟨g,(lo+hi) / 2 * 3+2,none⟩=some (.int .i64 rk):=cm 2 _ rfl
   clear hv cm
   have HSM:=Aside0.mk hsm
   clear hsm
   generalize hsv:S ((lo+hi) / 2)=s at HSM
   have V:=Aside0.mk hsv
   clear hsv
   by_cases h1:s < 0
   ·
    have HV:=Aside0.mk h1
    have hb1:decide (s < 0)=true:=decide_eq_true h1
    clear h1
    go_wp2_with (go_at_fn 77;refine (HSM.out _).mono ?_;rintro e w2 ⟨rfl,hb2⟩;have n0_:=Aside0.mk (below_step HB.out hb2);clear HB hb2;have HB:=n0_;clear n0_)
    go_roundg (hi - ((lo+hi) / 2+1))
    case measure=>omega
    case rel =>
     refine ⟨(lo+hi) / 2+1,hi,by rw [show ((lo:Int)+(hi:Int)) / 2+1=(((lo+hi) / 2+1:Nat):Int) by omega],rfl,by omega,hin,Nat.le_refl _,HB,⟨fun hm=>⟨fun t ht=>?_,(I.out hm).2⟩⟩⟩
     exact hm t ((lo+hi) / 2) (by omega) (by omega) (by rw [V.out];exact HV.out)
   ·
    have HV:=Aside0.mk h1
    have hb1:decide (s < 0)=false:=decide_eq_false h1
    clear h1
    go_wp2_with (go_at_fn 77;refine (HSM.out _).mono ?_;rintro e w2 ⟨rfl,hb2⟩;have n0_:=Aside0.mk (below_step HB.out hb2);clear HB hb2;have HB:=n0_;clear n0_)
    go_roundg ((lo+hi) / 2 - lo)
    case measure=>omega
    case rel =>
     refine ⟨lo,(lo+hi) / 2,rfl,by rw [show ((lo:Int)+(hi:Int)) / 2=(((lo+hi) / 2:Nat):Int) by omega],by omega,by omega,Nat.le_refl _,HB,⟨fun hm=>⟨(I.out hm).1,fun t ht htn=>?_⟩⟩⟩
     have h5:=HV.out
     rw [← V.out] at h5
     refine Int.not_lt.1 (fun h6=>absurd (hm ((lo+hi) / 2) t ht htn h6) (Int.not_lt.2 (Int.not_lt.1 (fun h7=>absurd h7 (by simpa using h5)))))
  ·
   obtain rfl:hi=lo:=by omega
   by_cases hcn:hi < n
   ·
    have cm: ∀ (k:Nat) v,(class_Of.cells (R hi))[k]?=some v→wr.cell? ⟨g,hi * 3+k,none⟩=some v:=fun k v h=>(HB.out.cell (p:=⟨g,hi * 3+k,none⟩) HG.out).trans (HC.out _ hcn k v h)
    have hsm:=HSC.out hi hcn
    rcases hv:R hi with ⟨rf,rt,rk⟩
    rw [hv] at cm hsm
    have cm0:wr.cell? ⟨g,hi * 3,none⟩=some (.int .i64 rf):=cm 0 _ rfl
    have cm1:wr.cell? ⟨g,hi * 3+1,none⟩=some (.int .i64 rt):=cm 1 _ rfl
    have cm2:wr.cell? ⟨g,hi * 3+2,none⟩=some (.int .i64 rk):=cm 2 _ rfl
    clear hv cm
    have HSM:=Aside0.mk hsm
    clear hsm
    generalize hsv:S hi=s at HSM
    have V:=Aside0.mk hsv
    clear hsv
    by_cases h1:s=0
    ·
     subst h1
     go_wp2_with (go_at_fn 77;refine (HSM.out _).mono ?_;rintro e w2 ⟨rfl,hb2⟩;have n0_:=Aside0.mk (below_step HB.out hb2);clear HB hb2;have HB:=n0_;clear n0_)
     go_ret2
     exact ⟨hi,by rw [decide_eq_true (show hi < n∧S hi=0 from ⟨hcn,V.out⟩)];rfl,HB.out,hin,I.out⟩
    ·
     have hb1:(s==0)=false:=beq_eq_false_iff_ne.2 h1
     have HV:=Aside0.mk h1
     clear h1
     go_wp2_with (go_at_fn 77;refine (HSM.out _).mono ?_;rintro e w2 ⟨rfl,hb2⟩;have n0_:=Aside0.mk (below_step HB.out hb2);clear HB hb2;have HB:=n0_;clear n0_)
     go_ret2
     exact ⟨hi,by rw [decide_eq_false (show ¬ (hi < n∧S hi=0) from fun h=>HV.out (V.out▸h.2))];rfl,HB.out,hin,I.out⟩
   ·
    go_wp2
    go_ret2
    exact ⟨hi,by rw [decide_eq_false (show ¬ (hi < n∧S hi=0) from fun h=>hcn h.1)];rfl,HB.out,hin,I.out⟩
theorem class_Of.spn_at: ∀ (l:List S117) (c:Int) (q:Nat),q≤l.length→(∀ t,t < q→(l.getD t z117).f1 < c)→(∀ t,q≤t→t < l.length→c≤(l.getD t z117).f1)→class_Of.spn l c=if q < l.length∧(l.getD q z117).f0≤c then (l.getD q z117).f2 else 0
 | [],c,q,hq,_,_=>by
  obtain rfl:q=0:=by simpa using hq
  rfl
 | r::l,c,0,hq,h1,h2=>by
  have h3:c≤r.f1:=h2 0 (Nat.le_refl _) (by simp)
  unfold class_Of.spn
  rw [if_neg (by omega)]
  by_cases h4:c < r.f0
  ·
   rw [if_pos h4,if_neg (fun h=>by have:r.f0≤c:=h.2;omega)]
  ·
   rw [if_neg h4,if_pos ⟨by simp,by show r.f0≤c;omega⟩]
   rfl
 | r::l,c,q+1,hq,h1,h2=>by
  have h3:r.f1 < c:=h1 0 (by omega)
  have ih:=class_Of.spn_at l c q (by simpa using hq) (fun t ht=>by simpa using h1 (t+1) (by omega)) (fun t ht1 ht2=>by simpa using h2 (t+1) (by omega) (by simpa using ht2))
  unfold class_Of.spn
  rw [if_pos h3,ih]
  simp
def class_Of.row (j:Nat):S117:=class_spans.L.getD j z117
set_option maxRecDepth 100000 in
theorem class_Of.row_up: ∀ a b,a < b→b < 166→(class_Of.row a).f1 < (class_Of.row b).f1:=by
 have h: ∀ b:Fin 166,∀ a:Fin b.val,(class_Of.row a.val).f1 < (class_Of.row b.val).f1:=by decide +kernel
 exact fun a b h1 h2=>h ⟨b,h2⟩ ⟨a,h1⟩
theorem class_Of.len:class_spans.L.length=166:=by decide +kernel
set_option maxHeartbeats 4000000 in
set_option maxRecDepth 100000 in
theorem class_Of.calls (a0:Int) (r:Int) (w:World) (h:class_Of.f a0=some r) :
  Calls Try.prog 49 #[.int .i64 a0] w fun e w'=>e= .returned (.int .i64 r)∧Below w.heap.size w w':=by
 have HV:=Aside0.mk (show class_Of.val a0=r from Option.some.inj h)
 clear h
 have HB:=Aside0.mk (Below.refl w.heap.size w)
 have HL:=Aside0.mk class_Of.len
 have HSE:=Aside0.mk (fun g W c (hg:g < W.heap.size) hc=>class_Of.search class_Of.row (fun j=>class_Of.side (class_Of.row j) a0) g c 166 a0 W hg hc (by decide) (fun j _ W=>class_Of.cmp _ _ _ _ _))
 have HUP:=Aside0.mk class_Of.row_up
 have HAT:=Aside0.mk (class_Of.spn_at class_spans.L a0)
 have HSP:=Aside0.mk (fun W=>class_spans.calls class_spans.L W rfl)
 have HRW:=Aside0.mk (show ∀ j,class_spans.L.getD j z117=class_Of.row j from fun j=>rfl)
 unfold class_Of.val at HV
 generalize class_spans.L=L at *
 go_enter Try.func49,Try.ntmps49
 go_wp2_with (go_at_call 75;refine (HSP.out _).mono ?_;rintro e w1 ⟨v1,rfl,hO,hb1⟩;obtain ⟨g,c,rfl,hgb,hgl,hty⟩:=Kd.R_form hO (by rw [HL.out];decide);have n0_:=Aside0.mk (below_step HB.out hb1);clear HB hb1 hty;have HB:=n0_;clear n0_;have HO:=Aside0.mk (Kd.R_reads hO);clear hO;rw [HL.out] at HO;(try rw [HL.out]))
 have HC:Aside0 (∀ j,j < 166→ ∀ (k:Nat) v,(class_Of.cells (class_Of.row j))[k]?=some v→w1.cell? ⟨g,j * 3+k,none⟩=some v):=⟨fun j hj k v hk=>by
  obtain ⟨A,c',he,hlc,hC⟩:=HO.out
  injection he with he _ _
  subst he
  obtain ⟨ad,hA,hcell⟩:=hC.2.2 (by omega)
  injection hA with hA
  subst hA
  have hL:L[j]?=some (class_Of.row j):=by
   have h1:j < L.length:=by rw [HL.out];exact hj
   rw [List.getElem?_eq_getElem h1,← HRW.out j,List.getD_eq_getElem?_getD,List.getElem?_eq_getElem h1]
   rfl
  obtain ⟨cs,_,hK,hcc⟩:=hcell j _ hL
  obtain rfl:=k117_open hK
  have h3:=hcc k v hk
  have ea:(⟨g,0,none⟩:Addr).add (j * 3+k)=⟨g,j * 3+k,none⟩:=by
   by_cases h0:j * 3+k=0
   ·
    rw [h0];rfl
   ·
    simp [Addr.add]
    omega
  exact (congrArg w1.cell? ea).symm.trans h3⟩
 clear HO
 refine (HSE.out g w1 c hgl HC.out).mono ?_
 rintro e w4 ⟨q,rfl,hb4,hqn,hmq⟩
 have HC4:=Aside0.mk (fun j hj k v h_=>(hb4.cell (p:=⟨g,j * 3+k,none⟩) hgl).trans (HC.out j hj k v h_))
 have n0_:=Aside0.mk (below_step HB.out hb4)
 clear HB hb4 HC
 have HB:=n0_
 clear n0_
 have hm:=hmq (fun a b hab hb hs=>by
  have e1:(class_Of.row b).f1 < a0:=by
   simp only [class_Of.side] at hs
   split at hs
   ·
    assumption
   ·
    split at hs <;> omega
  have e2:(class_Of.row a).f1 < a0:=by
   by_cases e:a=b
   ·
    subst e;exact e1
   ·
    have:=HUP.out a b (by omega) hb
    omega
  simp only [class_Of.side]
  rw [if_pos e2]
  decide)
 have hv:=HAT.out q (by rw [HL.out];exact hqn) (fun t ht=>by
  have:=hm.1 t ht
  rw [HRW.out]
  simp only [class_Of.side] at this
  split at this
  ·
   assumption
  ·
   split at this <;> omega) (fun t ht1 ht2=>by
  rw [HL.out] at ht2
  have:=hm.2 t ht1 ht2
  rw [HRW.out]
  simp only [class_Of.side] at this
  split at this
  ·
   omega
  ·
   omega)
 rw [HV.out,HL.out,HRW.out] at hv
 have hside:q < 166→class_Of.side (class_Of.row q) a0=0→(class_Of.row q).f0≤a0:=fun h1 h2=>by
  simp only [class_Of.side] at h2
  split at h2
  ·
   omega
  ·
   split at h2 <;> omega
 have hside2:q < 166→(class_Of.row q).f0≤a0→class_Of.side (class_Of.row q) a0=0:=fun h1 h2=>by
  have:=hm.2 q (Nat.le_refl _) h1
  simp only [class_Of.side] at this ⊢
  split at this
  ·
   omega
  ·
   rename_i h3
   rw [if_neg h3,if_neg (by omega)]
 clear hm hmq
 by_cases hq:q < 166∧(class_Of.row q).f0≤a0
 ·
  rw [if_pos hq] at hv
  rw [show decide (q < 166∧(fun j=>class_Of.side (class_Of.row j) a0) q=0)=true from decide_eq_true ⟨hq.1,hside2 hq.1 hq.2⟩]
  have cm2:w4.cell? ⟨g,q * 3+2,none⟩=some (.int .i64 (class_Of.row q).f2):=HC4.out q hq.1 2 _ rfl
  have HQ:=Aside0.mk hv
  have hq1:=hq.1
  clear hv hside hside2 hq HC4 HSE HUP HAT HSP HRW HV HL hqn
  generalize (class_Of.row q).f2=kk at *
  go_wp2
  go_ret
  exact ⟨by rw [HQ.out];rfl,HB.out⟩
 ·
  rw [if_neg hq] at hv
  rw [show decide (q < 166∧(fun j=>class_Of.side (class_Of.row j) a0) q=0)=false from decide_eq_false (fun h=>hq ⟨h.1,hside h.1 h.2⟩)]
  have HQ:=Aside0.mk hv
  clear hv hside hside2 hq HC4 HSE HUP HAT HSP HRW HV HL hqn
  go_wp2
  go_ret
  exact ⟨by rw [HQ.out];rfl,HB.out⟩
end
/-! ### level_Removed:function 78 -/
def level_Removed.f (a0:Int):Option (Bool):=if a0=16 then (some true) else (if a0=14 then (some true) else (if a0=17 then (some true) else (if a0=15 then (some true) else (if a0=18 then (some true) else (if a0=9 then (some true) else (some false))))))
set_option maxHeartbeats 8000000 in
set_option maxRecDepth 100000 in
theorem level_Removed.calls (a0:Int) (r:Bool) (w:World) (h:level_Removed.f a0=some r) :
  Calls Try.prog 78 #[.int .i64 a0] w fun e w'=>e= .returned (.bool r)∧Drawn0 w w':=by
 have H:(if a0=16 then (some true) else (if a0=14 then (some true) else (if a0=17 then (some true) else (if a0=15 then (some true) else (if a0=18 then (some true) else (if a0=9 then (some true) else (some false)))))))=some r:=h
 clear h
 by_cases c2:a0=16
 ·
  rw [if_pos c2] at H
  have c2b0:(a0==16)=true:=beq_iff_eq.mpr c2
  have c2b1:(a0 !=16)=false:=bne_eq_false_iff_eq.mpr c2
  clear c2
  obtain rfl:=Option.some.inj H
  go_enter Try.func78,Try.ntmps78
  go_wp2
  go_ret
  exact ⟨by first|rfl|(simp;done)|(simp [*];done),by repeat (first|exact Drawn0.refl _|apply Drawn0.step)⟩
 ·
  rw [if_neg c2] at H
  have c2b0:(a0==16)=false:=beq_eq_false_iff_ne.mpr c2
  have c2b1:(a0 !=16)=true:=bne_iff_ne.mpr c2
  by_cases c3:a0=14
  ·
   rw [if_pos c3] at H
   have c3b0:(a0==14)=true:=beq_iff_eq.mpr c3
   have c3b1:(a0 !=14)=false:=bne_eq_false_iff_eq.mpr c3
   clear c3
   obtain rfl:=Option.some.inj H
   go_enter Try.func78,Try.ntmps78
   go_wp2
   go_ret
   exact ⟨by first|rfl|(simp;done)|(simp [*];done),by repeat (first|exact Drawn0.refl _|apply Drawn0.step)⟩
  ·
   rw [if_neg c3] at H
   have c3b0:(a0==14)=false:=beq_eq_false_iff_ne.mpr c3
   have c3b1:(a0 !=14)=true:=bne_iff_ne.mpr c3
   by_cases c4:a0=17
   ·
    rw [if_pos c4] at H
    have c4b0:(a0==17)=true:=beq_iff_eq.mpr c4
    have c4b1:(a0 !=17)=false:=bne_eq_false_iff_eq.mpr c4
    clear c4
    obtain rfl:=Option.some.inj H
    go_enter Try.func78,Try.ntmps78
    go_wp2
    go_ret
    exact ⟨by first|rfl|(simp;done)|(simp [*];done),by repeat (first|exact Drawn0.refl _|apply Drawn0.step)⟩
   ·
    rw [if_neg c4] at H
    have c4b0:(a0==17)=false:=beq_eq_false_iff_ne.mpr c4
    have c4b1:(a0 !=17)=true:=bne_iff_ne.mpr c4
    by_cases c5:a0=15
    ·
     rw [if_pos c5] at H
     have c5b0:(a0==15)=true:=beq_iff_eq.mpr c5
     have c5b1:(a0 !=15)=false:=bne_eq_false_iff_eq.mpr c5
     clear c5
     obtain rfl:=Option.some.inj H
     go_enter Try.func78,Try.ntmps78
     go_wp2
     go_ret
     exact ⟨by first|rfl|(simp;done)|(simp [*];done),by repeat (first|exact Drawn0.refl _|apply Drawn0.step)⟩
    ·
     rw [if_neg c5] at H
     have c5b0:(a0==15)=false:=beq_eq_false_iff_ne.mpr c5
     have c5b1:(a0 !=15)=true:=bne_iff_ne.mpr c5
     by_cases c6:a0=18
     ·
      rw [if_pos c6] at H
      have c6b0:(a0==18)=true:=beq_iff_eq.mpr c6
      have c6b1:(a0 !=18)=false:=bne_eq_false_iff_eq.mpr c6
      clear c6
      obtain rfl:=Option.some.inj H
      go_enter Try.func78,Try.ntmps78
      go_wp2
      go_ret
      exact ⟨by first|rfl|(simp;done)|(simp [*];done),by repeat (first|exact Drawn0.refl _|apply Drawn0.step)⟩
     ·
      rw [if_neg c6] at H
      have c6b0:(a0==18)=false:=beq_eq_false_iff_ne.mpr c6
      have c6b1:(a0 !=18)=true:=bne_iff_ne.mpr c6
      by_cases c7:a0=9
      ·
       rw [if_pos c7] at H
       have c7b0:(a0==9)=true:=beq_iff_eq.mpr c7
       have c7b1:(a0 !=9)=false:=bne_eq_false_iff_eq.mpr c7
       clear c7
       obtain rfl:=Option.some.inj H
       go_enter Try.func78,Try.ntmps78
       go_wp2
       go_ret
       exact ⟨by first|rfl|(simp;done)|(simp [*];done),by repeat (first|exact Drawn0.refl _|apply Drawn0.step)⟩
      ·
       rw [if_neg c7] at H
       have c7b0:(a0==9)=false:=beq_eq_false_iff_ne.mpr c7
       have c7b1:(a0 !=9)=true:=bne_iff_ne.mpr c7
       obtain rfl:=Option.some.inj H
       go_enter Try.func78,Try.ntmps78
       go_wp2
       go_ret
       exact ⟨by first|rfl|(simp;done)|(simp [*];done),by repeat (first|exact Drawn0.refl _|apply Drawn0.step)⟩
/-! ### bidi_blank:function 50 -/
def bidi_blank.f (a0:Int):Option (Bool):=if a0=12 then (some true) else (if a0≥19 then (if a0≤22 then (some true) else ((level_Removed.f a0).bind fun t119=>(some t119))) else ((level_Removed.f a0).bind fun t120=>(some t120)))
set_option maxHeartbeats 8000000 in
set_option maxRecDepth 100000 in
theorem bidi_blank.calls (a0:Int) (r:Bool) (w:World) (h:bidi_blank.f a0=some r) :
  Calls Try.prog 50 #[.int .i64 a0] w fun e w'=>e= .returned (.bool r)∧Drawn0 w w':=by
 have H:(if a0=12 then (some true) else (if a0≥19 then (if a0≤22 then (some true) else ((level_Removed.f a0).bind fun t119=>(some t119))) else ((level_Removed.f a0).bind fun t120=>(some t120))))=some r:=h
 clear h
 by_cases c2:a0=12
 ·
  rw [if_pos c2] at H
  have c2b0:(a0==12)=true:=beq_iff_eq.mpr c2
  have c2b1:(a0 !=12)=false:=bne_eq_false_iff_eq.mpr c2
  clear c2
  obtain rfl:=Option.some.inj H
  go_enter Try.func50,Try.ntmps50
  go_wp2
  go_ret
  exact ⟨by first|rfl|(simp;done)|(simp [*];done),by repeat (first|exact Drawn0.refl _|apply Drawn0.step)⟩
 ·
  rw [if_neg c2] at H
  have c2b0:(a0==12)=false:=beq_eq_false_iff_ne.mpr c2
  have c2b1:(a0 !=12)=true:=bne_iff_ne.mpr c2
  by_cases c3:a0≥19
  ·
   rw [if_pos c3] at H
   have c3b0:decide (19≤a0)=true:=decide_eq_true c3
   clear c3
   by_cases c4:a0≤22
   ·
    rw [if_pos c4] at H
    have c4b0:decide (a0≤22)=true:=decide_eq_true c4
    clear c4
    obtain rfl:=Option.some.inj H
    go_enter Try.func50,Try.ntmps50
    go_wp2
    go_ret
    exact ⟨by first|rfl|(simp;done)|(simp [*];done),by repeat (first|exact Drawn0.refl _|apply Drawn0.step)⟩
   ·
    rw [if_neg c4] at H
    have c4b0:decide (a0≤22)=false:=decide_eq_false c4
    clear c4
    replace H:=Option.bind_eq_some_iff.mp H
    obtain ⟨t119,A50,H⟩:=H
    replace H:(some t119)=some r:=H
    have A5:=Aside0.mk A50
    clear A50
    obtain rfl:=Option.some.inj H
    go_enter Try.func50,Try.ntmps50
    go_wp2_with (first|(go_at_call 78;(with_reducible refine (level_Removed.calls a0 t119 _ A5.out).mono ?_);rintro e w' ⟨rfl,⟨nd,rfl⟩⟩))
    go_ret
    exact ⟨by first|rfl|(simp;done)|(simp [*];done),by repeat (first|exact Drawn0.refl _|apply Drawn0.step)⟩
  ·
   rw [if_neg c3] at H
   have c3b0:decide (19≤a0)=false:=decide_eq_false c3
   clear c3
   replace H:=Option.bind_eq_some_iff.mp H
   obtain ⟨t120,A60,H⟩:=H
   replace H:(some t120)=some r:=H
   have A6:=Aside0.mk A60
   clear A60
   obtain rfl:=Option.some.inj H
   go_enter Try.func50,Try.ntmps50
   go_wp2_with (first|(go_at_call 78;(with_reducible refine (level_Removed.calls a0 t120 _ A6.out).mono ?_);rintro e w' ⟨rfl,⟨nd,rfl⟩⟩))
   go_ret
   exact ⟨by first|rfl|(simp;done)|(simp [*];done),by repeat (first|exact Drawn0.refl _|apply Drawn0.step)⟩
end Go.Proofs.Yteoaegigjlhamaa.PC19
