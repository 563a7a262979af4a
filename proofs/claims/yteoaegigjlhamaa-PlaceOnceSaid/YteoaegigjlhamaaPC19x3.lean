/- For the laws of the group C19: the Lean functions that the Go functions compute, and proofs that they do. Written by wip/hprint.py of this repo over the kit's printer; nothing here is trusted: Lean checks it. -/
import Derived.Test.YteoaegigjlhamaaPC19x0
namespace Go.Proofs.Yteoaegigjlhamaa.PC19
open Go.RowKit Go.Proofs.YteoaegigjlhamaaW.PrintWords Go.Proofs.YteoaegigjlhamaaW.PrintLast Go.Proofs.YteoaegigjlhamaaW.PrintMore
attribute [local go_sem] max2_int min2_int max_two min_two max_three min_three max_four min_four
set_option linter.unusedVariables false
set_option linter.unusedSimpArgs false
/-! ### parquetrylaw19_of:function 15 -/
def parquetrylaw19_of.l0:Nat→List Int→List (S36)→Int→Option ((List (S36)))
 | 0,_,_,_=>none
 | k+1,x0,x3,x4=>if x4 < (x0.length:Int) then (if 0≤x4 then (if x3.length < 5864062014805 then (parquetrylaw19_of.l0 k x0 (x3++[(⟨x4,1,rd x0 x4⟩:S36)]) (wrap64 (x4+1))) else (none)) else (none)) else (some x3)
def parquetrylaw19_of.f (k:Nat) (l0:List Int):Option ((List (S36))):=parquetrylaw19_of.l0 k l0 ([]:List (S36)) 0
theorem parquetrylaw19_of.mono_l: ∀ k,(∀ y0 y1 y2,LeO (parquetrylaw19_of.l0 k y0 y1 y2) (parquetrylaw19_of.l0 (k+1) y0 y1 y2))
 | 0=>fun _ _ _ r h=>by simp [parquetrylaw19_of.l0] at h
 | k+1=>by
  have ih0:=parquetrylaw19_of.mono_l k
  ·
   intro y0 y1 y2
   unfold parquetrylaw19_of.l0
   repeat' first
   | (with_reducible exact ih0 _ _ _)
   | (with_reducible exact LeO.refl _)
   | (with_reducible exact LeO.none _)
   | (with_reducible refine LeO.ite ?_ ?_)
   | (with_reducible refine LeO.bind ?_ (fun _=>?_))
   | exact ih0 _ _ _
   | exact LeO.none _
   | refine LeO.ite ?_ ?_
   | refine LeO.bind ?_ (fun _=>?_)
theorem parquetrylaw19_of.mono: ∀ a0 k,LeO (parquetrylaw19_of.f k a0) (parquetrylaw19_of.f (k+1) a0):=by
 intro a0 k
 have ih0:=parquetrylaw19_of.mono_l k
 unfold parquetrylaw19_of.f
 repeat' first
   | (with_reducible exact ih0 _ _ _)
   | (with_reducible exact LeO.refl _)
   | (with_reducible exact LeO.none _)
   | (with_reducible refine LeO.ite ?_ ?_)
   | (with_reducible refine LeO.bind ?_ (fun _=>?_))
   | exact ih0 _ _ _
   | exact LeO.none _
   | refine LeO.ite ?_ ?_
   | refine LeO.bind ?_ (fun _=>?_)
set_option maxHeartbeats 8000000 in
set_option maxRecDepth 100000 in
theorem parquetrylaw19_of.calls (k:Nat) (A0:Option Addr) (c0:Nat) (l0:List Int) (r:List (S36)) (w:World) (hr0:Kd.C (Kd.int .i64) w A0 l0.length l0) (hc0:l0.length≤c0) (h:parquetrylaw19_of.f k l0=some r) :
  Calls Try.prog 15 #[.slice A0 l0.length c0] w fun e w'=> ∃ v0_:Value,e= .returned (v0_)∧Kd.R k36 36 w' w.heap.size (fun _=>True) v0_ r∧Below w.heap.size w w':=by
 have hu36:=Try.underlying36
 have HR0:=Aside0.mk hr0
 have HC0:=Aside0.mk hc0
 clear hr0 hc0
 have HB:=Aside0.mk (Below.refl w.heap.size w)
 have H:(parquetrylaw19_of.l0 k l0 ([]:List (S36)) 0)=some r:=h
 clear h
 have H':=Aside0.mk H
 clear H
 go_enter Try.func15,Try.ntmps15
 try dsimp only [List.append]
 go_wp2
 go_loopg [3,4] k (fun kq v3 v4 w'=> ∃ (x3_1:List (S36)) (x4_1:Int),v4= .int .i64 x4_1∧Aside0 (parquetrylaw19_of.l0 kq l0 x3_1 x4_1=some r)∧Aside0 (kq≤k)∧Aside0 (Kd.R k36 36 w' w.heap.size (fun _=>True) v3 x3_1)∧Aside0 (Below w.heap.size w w'))
 case atStart=>exact ⟨(([]:List (S36))),(0),(by first|rfl|(simp;done)|(simp [*];done)),H',⟨Nat.le_refl _⟩,⟨by first|exact Kd.R_nil _ _ _ _ _|exact Kd.N_nil _ _ _ _ _|exact Kd.V_nil _ _ _ _ _|exact Kd.Q_nil _ _ _ _ _|exact Kd.S_nil _ _ _ _ _⟩,⟨by repeat (first|(with_reducible first|exact HB.out|apply below_alloc|apply pw_below_drewN|apply below_drew1)|exact HB.out)⟩⟩
 case round =>
  clear H'
  try clear c1
  obtain ⟨x3_1,x4_1,rfl,HA,HK1,HO_3,HB⟩:=hrel
  cases gk with
  | zero=>exact absurd HA.out (by simp [parquetrylaw19_of.l0])
  | succ k1 =>
   have H:=HA.out
   clear HA
   simp only [parquetrylaw19_of.l0] at H
   by_cases c2:x4_1 < (l0.length:Int)
   ·
    rw [if_pos c2] at H
    have c2b0:decide (x4_1 < (l0.length:Int))=true:=decide_eq_true c2
    clear c2
    by_cases c3:0≤x4_1
    ·
     rw [if_pos c3] at H
     have c3b0:decide (0≤x4_1)=true:=decide_eq_true c3
     clear c3
     by_cases c4:x3_1.length < 5864062014805
     ·
      rw [if_pos c4] at H
      have LMc4:=Aside0.mk c4
      clear c4
      obtain ⟨y102,hy102⟩: ∃ y_:List (S36),y_=(x3_1++[(⟨x4_1,1,rd l0 x4_1⟩:S36)]):=⟨_,rfl⟩
      replace H:(parquetrylaw19_of.l0 k1 l0 y102 (wrap64 (x4_1+1)))=some r:=by first|(rw [hy102];with_reducible exact H)|(have H2_:=(Option.bind_some _ _).symm.trans H;rw [hy102];with_reducible exact H2_)|(have H2_:=(Option.bind_some _ _).symm.trans H;with_reducible exact H2_)|with_reducible exact H|(rw [hy102];exact H)|exact H
      have Ny102:=Aside0.mk hy102
      clear hy102
      have H':=Aside0.mk H
      clear H
      have p101:0≤(x4_1:Int):=of_decide_eq_true (by first|(with_reducible assumption)|assumption)
      have q101:x4_1 < (l0.length:Int):=of_decide_eq_true (by first|(with_reducible assumption)|assumption)
      obtain ⟨ad101,e101,hx101_0⟩:=Kd.at_int HR0.out x4_1 p101 q101
      cases e101
      replace hx101_0:=(HB.out.cell (World.block_lt_of_cell? w _ hx101_0)).trans hx101_0
      replace p101:=eq_true p101
      replace q101:=eq_true q101
      go_wp2_with (first|((with_reducible refine gate_builtin (b:= .append) (xs:= #[.tmp 11,.tmp 18]) rfl ?_);at_builtin;refine Kd.R_append k36 (w0:=w) w.heap.size rfl (.tmp 11) (.tmp 18) 22 36 (.agg #[(.int .i64 0),(.int .i64 0),(.int .i64 0)]) 24 rfl Try.underlying22 info36 rfl (by decide) (by omega) u3 x3_1 (⟨x4_1,1,rd l0 x4_1⟩:S36) [.int .i64 x4_1,.int .i64 1,.int .i64 (rd l0 x4_1)] (fun _=>True) (fun _=>False) rfl rfl ?aP (fun _ hk=>hk.elim) ?aF ?aO ?aB ?aS ?aL ?_;(case aP=>exact k36_mkM _ _ _ (⟨x4_1,1,rd l0 x4_1⟩:S36));(case aB=>exact (by repeat (first|(with_reducible first|exact HB.out|apply below_alloc|apply pw_below_drewN|apply below_drew1)|exact HB.out)));(case aF=>exact (fun _ _=>trivial));(case aO=>exact (by (with_reducible repeat (first|apply Kd.R_alloc|apply Kd.R_drewN|apply Kd.R_drew));exact HO_3.out));(case aS=>exact (below_size (by repeat (first|(with_reducible first|exact HB.out|apply below_alloc|apply pw_below_drewN|apply below_drew1)|exact HB.out))));(case aL=>have:=LMc4.out;omega);intro v103 w5 ho hb hg hat;rw [← Ny102.out] at ho;have n0_:=Aside0.mk (hb);have n1_:=Aside0.mk (ho);clear HB;clear HO_3;have HB:=n0_;have HO104:=n1_;clear n0_ n1_;clear ho hb hg hat))
      go_roundg k1
      case measure=>have:=HK1.out;omega
      case rel=>exact ⟨(y102),(wrap64 (x4_1+1)),(by first|rfl|(simp;done)|(simp [*];done)),H',⟨by have:=HK1.out;omega⟩,⟨by (with_reducible repeat (first|apply Kd.R_alloc|apply Kd.R_drewN|apply Kd.R_drew));exact HO104.out⟩,⟨by repeat (first|(with_reducible first|exact HB.out|apply below_alloc|apply pw_below_drewN|apply below_drew1)|exact HB.out)⟩⟩
     ·
      rw [if_neg c4] at H
      exact absurd H (by simp)
    ·
     rw [if_neg c3] at H
     exact absurd H (by simp)
   ·
    rw [if_neg c2] at H
    have c2b0:decide (x4_1 < (l0.length:Int))=false:=decide_eq_false c2
    clear c2
    obtain rfl:=Option.some.inj H
    go_wp2
    go_ret
    exact ⟨_,by first|rfl|(simp [errW_none,errW_some] <;> rfl)|(simp [*,errW_none,errW_some] <;> rfl),by (with_reducible repeat (first|apply Kd.R_alloc|apply Kd.R_drewN|apply Kd.R_drew));exact HO_3.out,by repeat (first|(with_reducible first|exact HB.out|apply below_alloc|apply pw_below_drewN|apply below_drew1)|exact HB.out)⟩
/-! ### gcb_Of:function 43:by hand -/
structure gcb_Of.Row where
 f:Int
 k:Int
def gcb_Of.rowsL:List gcb_Of.Row:=[⟨0,3⟩,⟨10,2⟩,⟨11,3⟩,⟨13,1⟩,⟨14,3⟩,⟨32,0⟩,⟨127,3⟩,⟨160,0⟩,⟨173,3⟩,⟨174,0⟩,⟨768,4⟩,⟨880,0⟩,⟨1155,4⟩,⟨1162,0⟩,⟨1425,4⟩,⟨1470,0⟩,⟨1471,4⟩,⟨1472,0⟩,⟨1473,4⟩,⟨1475,0⟩,⟨1476,4⟩,⟨1478,0⟩,⟨1479,4⟩,⟨1480,0⟩,⟨1536,7⟩,⟨1542,0⟩,⟨1552,4⟩,⟨1563,0⟩,⟨1564,3⟩,⟨1565,0⟩,⟨1611,4⟩,⟨1632,0⟩,⟨1648,4⟩,⟨1649,0⟩,⟨1750,4⟩,⟨1757,7⟩,⟨1758,0⟩,⟨1759,4⟩,⟨1765,0⟩,⟨1767,4⟩,⟨1769,0⟩,⟨1770,4⟩,⟨1774,0⟩,⟨1807,7⟩,⟨1808,0⟩,⟨2274,7⟩,⟨2275,0⟩,⟨2307,8⟩,⟨2308,0⟩,⟨2362,4⟩,⟨2363,8⟩,⟨2364,4⟩,⟨2365,0⟩,⟨2366,8⟩,⟨2369,4⟩,⟨2377,8⟩,⟨2381,4⟩,⟨2382,8⟩,⟨2384,0⟩,⟨2434,8⟩,⟨2436,0⟩,⟨2494,4⟩,⟨2495,0⟩,⟨3406,7⟩,⟨3407,0⟩,⟨3633,4⟩,⟨3634,0⟩,⟨3635,8⟩,⟨3636,4⟩,⟨3643,0⟩,⟨3655,4⟩,⟨3663,0⟩,⟨3763,8⟩,⟨3764,0⟩,⟨4352,9⟩,⟨4448,10⟩,⟨4520,11⟩,⟨4608,0⟩,⟨6158,3⟩,⟨6159,0⟩,⟨6832,4⟩,⟨6863,0⟩,⟨7616,4⟩,⟨7680,0⟩,⟨8203,3⟩,⟨8204,4⟩,⟨8205,5⟩,⟨8206,3⟩,⟨8208,0⟩,⟨8232,3⟩,⟨8239,0⟩,⟨8288,3⟩,⟨8304,0⟩,⟨8400,4⟩,⟨8433,0⟩,⟨12330,4⟩,⟨12336,0⟩,⟨12441,4⟩,⟨12443,0⟩,⟨42607,4⟩,⟨42611,0⟩,⟨43360,9⟩,⟨43389,0⟩,⟨55216,10⟩,⟨55239,0⟩,⟨55243,11⟩,⟨55292,0⟩,⟨64286,4⟩,⟨64287,0⟩,⟨65024,4⟩,⟨65040,0⟩,⟨65056,4⟩,⟨65072,0⟩,⟨65279,3⟩,⟨65280,0⟩,⟨65438,4⟩,⟨65440,0⟩,⟨65520,3⟩,⟨65532,0⟩,⟨127462,6⟩,⟨127488,0⟩,⟨127995,4⟩,⟨128000,0⟩,⟨917504,3⟩,⟨917536,4⟩,⟨917632,3⟩,⟨917760,4⟩,⟨918000,0⟩]
def gcb_Of.cells (r:gcb_Of.Row):List Value:=[.int .i64 r.f,.int .i64 r.k]
def gcb_Of.all:List Value:=gcb_Of.rowsL.flatMap gcb_Of.cells
def gcb_Of.z:gcb_Of.Row:=⟨0,0⟩
def gcb_Of.row (j:Nat):gcb_Of.Row:=gcb_Of.rowsL.getD j gcb_Of.z
def gcb_Of.kd:List gcb_Of.Row→Int→Int→Int
 | [],d,_=>d
 | r::l,d,c=>if r.f≤c then gcb_Of.kd l r.k c else d
def gcb_Of.kindV (k c:Int):Int:=if c < 44032∨c > 55203 then k else if Int.tmod (c - 44032) 28=0 then 12 else 13
def gcb_Of.val (c:Int):Int:=if c < 0 then 0 else gcb_Of.kindV (gcb_Of.kd gcb_Of.rowsL 0 c) c
def gcb_Of.f (a0:Int):Option Int:=if -9223372036854775808≤a0∧a0≤9223372036854775807 then some (gcb_Of.val a0) else none
section
open Go.Proofs.YteoaegigjlhamaaH
set_option maxRecDepth 100000 in
theorem gcb_Of.rows_size:(gcb_Of.all).toArray.size=256:=by decide
theorem gcb_Of.rows_one: ∀ q ∈ (Value.agg gcb_Of.all.toArray).cells.toList,q.oneCell'=true:=by
 intro q hq
 have hq':q ∈ gcb_Of.all:=by simpa [Value.cells] using hq
 unfold gcb_Of.all at hq'
 obtain ⟨r,_,hr⟩:=List.mem_flatMap.1 hq'
 unfold gcb_Of.cells at hr
 simp only [List.mem_cons,List.not_mem_nil,or_false] at hr
 rcases hr with rfl|rfl <;> rfl
set_option maxHeartbeats 4000000 in
set_option maxRecDepth 100000 in
theorem gcb_Of.rows_calls (w:World):Calls Try.prog 65 #[] w fun e w'=>e= .returned (.agg gcb_Of.all.toArray)∧Below w.heap.size w w':=by
 go_enter Try.func65,Try.ntmps65
 refine wp_seq (wp_region_list ?_)
 refine alloc_event rfl 99 rfl 256 (by kernel_rfl) ?_
 intro g w1 cs hcs hg hb hbel hsz
 refine wpList_nil (wp_seq (wp_region_list ?_))
 refine builds_event 129 _ 0 129 (.pointer (some ⟨g,0,none⟩)) (.agg gcb_Of.all.toArray) (by kernel_rfl) ?_
 rintro ⟨tm,df⟩ h1 h2 h3
 have hs:=gcb_Of.rows_size
 have ho:=gcb_Of.rows_one
 generalize hV:Value.agg gcb_Of.all.toArray=V at *
 refine block_store rfl rfl 99 (.tmp 0) (.tmp 129) rfl h1 V h2 hb (by rw [hcs,← hV];exact hs) (by rw [hcs];kernel_rfl) ho ?_
 intro w2 hb2 hk2 hs2 hB2
 refine wpList_nil (wp_ret ?_)
 subst hV
 exact bodyPost_ret (v:= .agg gcb_Of.all.toArray) (results_c1 rfl _ _ _ _ _ _ _ h1 hb2 Try.underlying99 rfl (by rw [hs];kernel_rfl)) h3 ⟨rfl,hB2 _ _ hbel (by omega)⟩
theorem gcb_Of.cmp (f k c:Int) (W:World):Calls Try.prog 67 #[.agg #[.int .i64 f,.int .i64 k],.int .i64 c] W fun e w'=>e= .returned (.int .i64 (wrap64 (f - c)))∧Below W.heap.size W w':=by
 go_enter Try.func67,Try.ntmps67
 go_wp2
 go_ret
 exact ⟨by first|rfl|simp [wrap64],below_alloc (Below.refl _ _) _⟩
def gcb_Of.SPost (S:Nat→Int) (n:Nat) (w:World) (e:Ending) (w':World):Prop :=
 ∃ q:Nat,e= .returned (.tuple #[.int .i64 (q:Int),.bool (decide (q < n∧S q=0))])∧Below w.heap.size w w'∧q≤n∧((∀ a b,a≤b→b < n→S b < 0→S a < 0)→(∀ t,t < q→S t < 0)∧(∀ t,q≤t→t < n→0≤S t))
set_option maxHeartbeats 1000000 in
set_option maxRecDepth 100000 in
theorem gcb_Of.search (R:Nat→gcb_Of.Row) (S:Nat→Int) (g c n:Nat) (y:Int) (w:World) (hg:g < w.heap.size) (hc: ∀ j,j < n→ ∀ (k:Nat) v,(gcb_Of.cells (R j))[k]?=some v→w.cell? ⟨g,j * 2+k,none⟩=some v) (hlen:n < 1000000)
  (hS: ∀ j,j < n→ ∀ W:World,Calls Try.prog 67 #[.agg #[.int .i64 (R j).f,.int .i64 (R j).k],.int .i64 y] W fun e w'=>e= .returned (.int .i64 (S j))∧Below W.heap.size W w') :
  Calls Try.prog 66 #[.slice (some ⟨g,0,none⟩) n c,.int .i64 y,.func (.func 67) #[] #[]] w (gcb_Of.SPost S n w):=by
 have eg: ∀ args w,(callFunc 67 args).run Try.prog w= .ok (.enter 67 args) w:=enters_of Try.func67 (by kernel_rfl) rfl
 have HC:=Aside0.mk hc
 have HSC:=Aside0.mk hS
 have HG:=Aside0.mk hg
 have HB0:=Aside0.mk (Below.refl w.heap.size w)
 clear hc hS hg
 go_enter Try.func66,Try.ntmps66
 go_wp2
 go_loopg [9,10] n (fun kx s9 s10 wr=> ∃ lo hi:Nat,s9= .int .i64 lo∧s10= .int .i64 hi∧lo≤hi∧hi≤n∧hi - lo≤kx∧Aside0 (Below w.heap.size w wr)∧Aside0 ((∀ a b,a≤b→b < n→S b < 0→S a < 0)→(∀ t,t < lo→S t < 0)∧(∀ t,hi≤t→t < n→0≤S t)))
 case atStart=>exact ⟨0,n,rfl,rfl,Nat.zero_le _,Nat.le_refl _,by omega,HB0,⟨fun _=>⟨fun t ht=>absurd ht (Nat.not_lt_zero _),fun t h1 h2=>by omega⟩⟩⟩
 case round =>
  clear HB0
  obtain ⟨lo,hi,rfl,rfl,hlh,hin,hk,HB,I⟩:=hrel
  by_cases hlt:lo < hi
  ·
   have cm: ∀ (k:Nat) v,(gcb_Of.cells (R ((lo+hi) / 2)))[k]?=some v→wr.cell? ⟨g,(lo+hi) / 2 * 2+k,none⟩=some v:=fun k v h=>(HB.out.cell (p:=⟨g,(lo+hi) / 2 * 2+k,none⟩) HG.out).trans (HC.out _ (by omega) k v h)
   have hsm:=HSC.out ((lo+hi) / 2) (by omega)
   rcases hv:R ((lo+hi) / 2) with ⟨rf,rk⟩
   rw [hv] at cm hsm
   have cm0:wr.cell? ⟨g,(lo+hi) / 2 * 2,none⟩=some (.int .i64 rf):=cm 0 _ rfl
   have cm1:wr.cell? ⟨g,(lo+hi) / 2 * 2+1,none⟩=some (.int .i64 rk):=cm 1 _ rfl
   clear hv cm
   have HSM:=Aside0.mk hsm
   clear hsm
   generalize hsv:S ((lo+hi) / 2)=s at HSM
   have V:=Aside0.mk hsv
   clear hsv
   by_cases h1:s < 0
   ·
    have HV:=Aside0.mk h1
    have hb1:decide (s < 0)=true:=decide_eq_true h1
    clear h1
    go_wp2_with (go_at_fn 67;refine (HSM.out _).mono ?_;rintro e w2 ⟨rfl,hb2⟩;have n0_:=Aside0.mk (below_step HB.out hb2);clear HB hb2;have HB:=n0_;clear n0_)
    go_roundg (hi - ((lo+hi) / 2+1))
    case measure=>omega
    case rel =>
     refine ⟨(lo+hi) / 2+1,hi,by rw [show ((lo:Int)+(hi:Int)) / 2+1=(((lo+hi) / 2+1:Nat):Int) by omega],rfl,by omega,hin,Nat.le_refl _,HB,⟨fun hm=>⟨fun t ht=>?_,(I.out hm).2⟩⟩⟩
     exact hm t ((lo+hi) / 2) (by omega) (by omega) (by rw [V.out];exact HV.out)
   ·
    have HV:=Aside0.mk h1
    have hb1:decide (s < 0)=false:=decide_eq_false h1
    clear h1
    go_wp2_with (go_at_fn 67;refine (HSM.out _).mono ?_;rintro e w2 ⟨rfl,hb2⟩;have n0_:=Aside0.mk (below_step HB.out hb2);clear HB hb2;have HB:=n0_;clear n0_)
    go_roundg ((lo+hi) / 2 - lo)
    case measure=>omega
    case rel =>
     refine ⟨lo,(lo+hi) / 2,rfl,by rw [show ((lo:Int)+(hi:Int)) / 2=(((lo+hi) / 2:Nat):Int) by omega],by omega,by omega,Nat.le_refl _,HB,⟨fun hm=>⟨(I.out hm).1,fun t ht htn=>?_⟩⟩⟩
     have h5:=HV.out
     rw [← V.out] at h5
     refine Int.not_lt.1 (fun h6=>absurd (hm ((lo+hi) / 2) t ht htn h6) (Int.not_lt.2 (Int.not_lt.1 (fun h7=>absurd h7 (by simpa using h5)))))
  ·
   obtain rfl:hi=lo:=by omega
   by_cases hcn:hi < n
   ·
    have cm: ∀ (k:Nat) v,(gcb_Of.cells (R hi))[k]?=some v→wr.cell? ⟨g,hi * 2+k,none⟩=some v:=fun k v h=>(HB.out.cell (p:=⟨g,hi * 2+k,none⟩) HG.out).trans (HC.out _ hcn k v h)
    have hsm:=HSC.out hi hcn
    rcases hv:R hi with ⟨rf,rk⟩
    rw [hv] at cm hsm
    have cm0:wr.cell? ⟨g,hi * 2,none⟩=some (.int .i64 rf):=cm 0 _ rfl
    have cm1:wr.cell? ⟨g,hi * 2+1,none⟩=some (.int .i64 rk):=cm 1 _ rfl
    clear hv cm
    have HSM:=Aside0.mk hsm
    clear hsm
    generalize hsv:S hi=s at HSM
    have V:=Aside0.mk hsv
    clear hsv
    by_cases h1:s=0
    ·
     subst h1
     go_wp2_with (go_at_fn 67;refine (HSM.out _).mono ?_;rintro e w2 ⟨rfl,hb2⟩;have n0_:=Aside0.mk (below_step HB.out hb2);clear HB hb2;have HB:=n0_;clear n0_)
     go_ret2
     exact ⟨hi,by rw [decide_eq_true (show hi < n∧S hi=0 from ⟨hcn,V.out⟩)];rfl,HB.out,hin,I.out⟩
    ·
     have hb1:(s==0)=false:=beq_eq_false_iff_ne.2 h1
     have HV:=Aside0.mk h1
     clear h1
     go_wp2_with (go_at_fn 67;refine (HSM.out _).mono ?_;rintro e w2 ⟨rfl,hb2⟩;have n0_:=Aside0.mk (below_step HB.out hb2);clear HB hb2;have HB:=n0_;clear n0_)
     go_ret2
     exact ⟨hi,by rw [decide_eq_false (show ¬ (hi < n∧S hi=0) from fun h=>HV.out (V.out▸h.2))];rfl,HB.out,hin,I.out⟩
   ·
    go_wp2
    go_ret2
    exact ⟨hi,by rw [decide_eq_false (show ¬ (hi < n∧S hi=0) from fun h=>hcn h.1)];rfl,HB.out,hin,I.out⟩
theorem gcb_Of.flat_at: ∀ (l:List gcb_Of.Row) (j k:Nat) (v:Value),j < l.length→(gcb_Of.cells (l.getD j gcb_Of.z))[k]?=some v→(l.flatMap gcb_Of.cells)[j * 2+k]?=some v
 | [],j,k,v,h,_=>by simp at h
 | r::l,0,k,v,h,hk=>by
  have hk4:k < 2:=by
   have:=(List.getElem?_eq_some_iff.1 hk).1
   simpa [gcb_Of.cells] using this
  rw [List.flatMap_cons,Nat.zero_mul,Nat.zero_add,List.getElem?_append_left (by simpa [gcb_Of.cells] using hk4)]
  exact hk
 | r::l,j+1,k,v,h,hk=>by
  rw [List.flatMap_cons,List.getElem?_append_right (by simp [gcb_Of.cells];omega)]
  have:=gcb_Of.flat_at l j k v (by simpa using h) hk
  rw [show (j+1) * 2+k - (gcb_Of.cells r).length=j * 2+k by simp [gcb_Of.cells];omega]
  exact this
theorem gcb_Of.blk_cells (W:World) (g:Nat) (h:W.heap[g]?=some (.cells gcb_Of.all.toArray 99 (0,0))) (j:Nat) (hj:j < 128) (k:Nat) (v:Value) (hk:(gcb_Of.cells (gcb_Of.row j))[k]?=some v):W.cell? ⟨g,j * 2+k,none⟩=some v:=by
 rw [blk_cell h]
 have:=gcb_Of.flat_at gcb_Of.rowsL j k v hj hk
 simpa [gcb_Of.all] using this
theorem gcb_Of.row_facts: ∀ j,j < 128→0≤(gcb_Of.row j).f∧(gcb_Of.row j).f≤1000000∧0≤(gcb_Of.row j).k∧(gcb_Of.row j).k≤13:=by
 have h: ∀ j:Fin 128,0≤(gcb_Of.row j.val).f∧(gcb_Of.row j.val).f≤1000000∧0≤(gcb_Of.row j.val).k∧(gcb_Of.row j.val).k≤13:=by decide +kernel
 exact fun j hj=>h ⟨j,hj⟩
theorem gcb_Of.row_up: ∀ a b,a < b→b < 128→(gcb_Of.row a).f < (gcb_Of.row b).f:=by
 have h: ∀ b:Fin 128,∀ a:Fin b.val,(gcb_Of.row a.val).f < (gcb_Of.row b.val).f:=by decide +kernel
 exact fun a b h1 h2=>h ⟨b,h2⟩ ⟨a,h1⟩
theorem gcb_Of.kd_at: ∀ (l:List gcb_Of.Row) (d c:Int) (m:Nat),m < l.length→(∀ t,t≤m→(l.getD t gcb_Of.z).f≤c)→(∀ t,m < t→t < l.length→c < (l.getD t gcb_Of.z).f)→gcb_Of.kd l d c=(l.getD m gcb_Of.z).k
 | [],d,c,m,hm,_,_=>by simp at hm
 | r::l,d,c,0,hm,h1,h2=>by
  have h3:r.f≤c:=h1 0 (Nat.le_refl _)
  unfold gcb_Of.kd
  rw [if_pos h3]
  cases l with
  | nil=>rfl
  | cons s l =>
   have h4:c < s.f:=h2 1 (by omega) (by simp)
   unfold gcb_Of.kd
   rw [if_neg (by omega)]
   rfl
 | r::l,d,c,m+1,hm,h1,h2=>by
  have h3:r.f≤c:=h1 0 (Nat.zero_le _)
  unfold gcb_Of.kd
  rw [if_pos h3,gcb_Of.kd_at l r.k c m (by simpa using hm) (fun t ht=>by simpa using h1 (t+1) (by omega)) (fun t ht1 ht2=>by simpa using h2 (t+1) (by omega) (by simpa using ht2))]
  simp
theorem gcb_Of.kind_calls (k c:Int) (w:World) (h1: -9223372036854775808≤c) (h2:c≤9223372036854775807):Calls Try.prog 68 #[.int .i64 k,.int .i64 c] w fun e w'=>e= .returned (.int .i64 (gcb_Of.kindV k c))∧w=w':=by
 unfold gcb_Of.kindV
 by_cases g1:c < 44032
 ·
  rw [if_pos (.inl g1)]
  have b1:decide (c < 44032)=true:=decide_eq_true g1
  clear g1
  go_enter Try.func68,Try.ntmps68
  go_wp2
  go_ret
  exact ⟨rfl,rfl⟩
 ·
  by_cases g2:c > 55203
  ·
   rw [if_pos (.inr g2)]
   have b1:decide (c < 44032)=false:=decide_eq_false g1
   have b2:decide (55203 < c)=true:=decide_eq_true g2
   clear g1 g2
   go_enter Try.func68,Try.ntmps68
   go_wp2
   go_ret
   exact ⟨rfl,rfl⟩
  ·
   rw [if_neg (by omega)]
   have q1:44032≤c:=by omega
   have q2:c≤55203:=by omega
   have e1:Int.tmod (c - 44032) 28=(c - 44032) % 28:=Int.tmod_eq_emod_of_nonneg (by omega)
   have b1:decide (c < 44032)=false:=decide_eq_false g1
   have b2:decide (55203 < c)=false:=decide_eq_false g2
   rw [e1]
   clear e1 g1 g2
   by_cases g3:(c - 44032) % 28=0
   ·
    rw [if_pos g3]
    have b3:((c - 44032) % 28==0)=true:=beq_iff_eq.2 g3
    clear g3
    go_enter Try.func68,Try.ntmps68
    go_wp2
    go_ret
    exact ⟨rfl,rfl⟩
   ·
    rw [if_neg g3]
    have b3:((c - 44032) % 28==0)=false:=beq_eq_false_iff_ne.2 g3
    clear g3
    go_enter Try.func68,Try.ntmps68
    go_wp2
    go_ret
    exact ⟨rfl,rfl⟩
set_option maxHeartbeats 4000000 in
set_option maxRecDepth 100000 in
theorem gcb_Of.calls (a0:Int) (r:Int) (w:World) (h:gcb_Of.f a0=some r) :
  Calls Try.prog 43 #[.int .i64 a0] w fun e w'=>e= .returned (.int .i64 r)∧Below w.heap.size w w':=by
 have hrng: -9223372036854775808≤a0∧a0≤9223372036854775807:=by
  unfold gcb_Of.f at h
  split at h
  ·
   assumption
  ·
   cases h
 have hv:gcb_Of.val a0=r:=by
  unfold gcb_Of.f at h
  rw [if_pos hrng] at h
  exact Option.some.inj h
 clear h
 have HV:=Aside0.mk hv
 clear hv
 have HSZ:=Aside0.mk gcb_Of.rows_size
 have HONE:=Aside0.mk gcb_Of.rows_one
 have HROWS:=Aside0.mk gcb_Of.rows_calls
 have HBC:=Aside0.mk gcb_Of.blk_cells
 have HSE:=Aside0.mk (fun g W c (hg:g < W.heap.size) hc=>gcb_Of.search gcb_Of.row (fun j=>wrap64 ((gcb_Of.row j).f - a0)) g c 128 a0 W hg hc (by decide) (fun j _ W=>gcb_Of.cmp _ _ _ _))
 have HFA:=Aside0.mk gcb_Of.row_facts
 have HUP:=Aside0.mk gcb_Of.row_up
 have HKD:=Aside0.mk (gcb_Of.kd_at gcb_Of.rowsL 0 a0)
 generalize hall:gcb_Of.all=al at *
 go_enter Try.func43,Try.ntmps43
 go_wp2_with (first|(go_at_call 65;refine (HROWS.out _).mono ?_;rintro e w1 ⟨rfl,hb1⟩;have HB:=Aside0.mk hb1;clear hb1)|((with_reducible refine gate_dst (N:=3) rfl ?_);refine alloc_event rfl 99 rfl 256 (by kernel_rfl) ?_;intro g w2 cs hcs hg hb hbel hsz;have HG:=Aside0.mk (show w.heap.size≤g by have:=HB.out.size;omega);have n0_:=Aside0.mk (below_step HB.out hbel);clear HB;have HB:=n0_;clear n0_;have HK1:=Aside0.mk hb;have HCS:=Aside0.mk hcs;clear hcs hg hb hbel hsz)|((with_reducible refine gate_store (t:=99) (p:=3) rfl ?_);refine block_store rfl rfl 99 (.tmp 3) (.tmp 6) rfl rfl (.agg al.toArray) rfl HK1.out (by rw [HCS.out];exact HSZ.out) (by rw [HCS.out];kernel_rfl) HONE.out ?_;intro w3 hb3 hk3 hs3 hB3;have n0_:=Aside0.mk (hB3 _ _ HB.out HG.out);clear HB;have HB:=n0_;clear n0_;have HK2:=Aside0.mk hb3;clear HK1 hb3 hk3 hs3 hB3;have HGW:=Aside0.mk (show g < w3.heap.size by obtain ⟨h_,_⟩:=Array.getElem?_eq_some_iff.1 HK2.out;exact h_)))
 refine (HSE.out g _ _ HGW.out (fun j hj k v h_=>HBC.out _ g HK2.out j hj k v h_)).mono ?_
 rintro e w4 ⟨q,rfl,hb4,hqn,hmq⟩
 have HC4:=Aside0.mk (fun j hj k v h_=>(hb4.cell (p:=⟨g,j * 2+k,none⟩) HGW.out).trans (HBC.out _ g HK2.out j hj k v h_))
 have n0_:=Aside0.mk (below_step HB.out hb4)
 clear HB hb4 HK2
 have HB:=n0_
 clear n0_
 have HMQ:=Aside0.mk hmq
 clear hmq
 by_cases hneg:a0 < 0
 ·
  obtain rfl:(0:Int)=r:=by rw [← HV.out];unfold gcb_Of.val;rw [if_pos hneg]
  have hb0:decide (a0 < 0)=true:=decide_eq_true hneg
  clear HV hneg HMQ
  generalize decide (q < 128∧(fun j=>wrap64 ((gcb_Of.row j).f - a0)) q=0)=bb
  cases bb
  ·
   go_wp2
   go_ret
   exact ⟨rfl,HB.out⟩
  ·
   go_wp2
   go_ret
   exact ⟨rfl,HB.out⟩
 ·
  have hS: ∀ t,t < 128→wrap64 ((gcb_Of.row t).f - a0)=(gcb_Of.row t).f - a0:=fun t ht=>by
   have:=HFA.out t ht
   unfold wrap64
   omega
  have hmono:=HMQ.out (fun a b hab hb hsb=>by
   have e1:=hS a (by omega)
   have e2:=hS b hb
   simp only [e1,e2] at hsb ⊢
   by_cases e:a=b
   ·
    subst e;exact hsb
   ·
    have:=HUP.out a b (by omega) hb
    omega)
  obtain ⟨m,hm,hat,hm1,hm2⟩: ∃ m:Nat,m < 128∧(m=if q < 128∧wrap64 ((gcb_Of.row q).f - a0)=0 then q else q - 1)∧((q < 128∧wrap64 ((gcb_Of.row q).f - a0)=0)∨1≤q)∧((∀ t,t≤m→(gcb_Of.row t).f≤a0)∧(∀ t,m < t→t < 128→a0 < (gcb_Of.row t).f)):=by
   obtain ⟨g1,g2⟩:=hmono
   by_cases hb:q < 128∧wrap64 ((gcb_Of.row q).f - a0)=0
   ·
    refine ⟨q,hb.1,by rw [if_pos hb],.inl hb,fun t ht=>?_,fun t ht1 ht2=>?_⟩
    ·
     have e:=hS q hb.1
     by_cases h:t=q
     ·
      subst h;omega
     ·
      have:=HUP.out t q (by omega) hb.1
      omega
    ·
     have e:=hS q hb.1
     have:=HUP.out q t ht1 ht2
     omega
   ·
    have hq1:1≤q:=by
     refine Nat.one_le_iff_ne_zero.2 (fun h0=>hb ?_)
     subst h0
     have e0:(gcb_Of.row 0).f=0:=rfl
     have e:=hS 0 (by omega)
     have:=g2 0 (Nat.le_refl _) (by omega)
     simp only [e] at this
     exact ⟨by omega,by omega⟩
    refine ⟨q - 1,by omega,by rw [if_neg hb],.inr hq1,fun t ht=>?_,fun t ht1 ht2=>?_⟩
    ·
     have e:=hS t (by omega)
     have:=g1 t (by omega)
     simp only [e] at this
     omega
    ·
     have e:=hS t ht2
     have h3:=g2 t (by omega) ht2
     simp only [e] at h3
     by_cases h:t=q
     ·
      subst h
      have: ¬ (wrap64 ((gcb_Of.row t).f - a0)=0):=fun h=>hb ⟨ht2,h⟩
      omega
     ·
      have e4:=hS q (by omega)
      have h4:=g2 q (Nat.le_refl _) (by omega)
      simp only [e4] at h4
      have:=HUP.out q t (by omega) ht2
      omega
  have hk:gcb_Of.kd gcb_Of.rowsL 0 a0=(gcb_Of.row m).k:=HKD.out m hm hm2.1 hm2.2
  have hcm:w4.cell? ⟨g,m * 2+1,none⟩=some (.int .i64 (gcb_Of.row m).k):=HC4.out m hm 1 _ rfl
  have hvr:r=gcb_Of.kindV (gcb_Of.row m).k a0:=by
   rw [← HV.out,← hk];unfold gcb_Of.val;rw [if_neg hneg]
  clear HV HMQ HKD HFA HUP hmono hm2 hS HC4 hk
  have hb0:decide (a0 < 0)=false:=decide_eq_false hneg
  have ha0:0≤a0:=Int.not_lt.1 hneg
  clear hneg
  generalize (gcb_Of.row m).k=kk at *
  have HVR:=Aside0.mk hvr
  clear hvr
  by_cases hb:q < 128∧wrap64 ((gcb_Of.row q).f - a0)=0
  ·
   rw [if_pos hb] at hat
   rw [show decide (q < 128∧(fun j=>wrap64 ((gcb_Of.row j).f - a0)) q=0)=true from decide_eq_true hb]
   subst hat
   clear hb hm1
   go_wp2_with (go_at_call 68;refine (gcb_Of.kind_calls _ _ _ hrng.1 hrng.2).mono ?_;rintro e w5 ⟨rfl,rfl⟩)
   go_ret
   exact ⟨by rw [HVR.out];rfl,HB.out⟩
  ·
   rw [if_neg hb] at hat
   have hq1:1≤q:=by
    rcases hm1 with h|h
    ·
     exact absurd h hb
    ·
     exact h
   rw [show decide (q < 128∧(fun j=>wrap64 ((gcb_Of.row j).f - a0)) q=0)=false from decide_eq_false hb]
   obtain rfl:q=m+1:=by omega
   clear hb hm1 hat hq1
   have hmm:(((m+1:Nat):Int) - 1)=(m:Int):=by omega
   go_wp2_with (go_at_call 68;refine (gcb_Of.kind_calls _ _ _ hrng.1 hrng.2).mono ?_;rintro e w5 ⟨rfl,rfl⟩)
   go_ret
   exact ⟨by rw [HVR.out];rfl,HB.out⟩
end
/-! ### cols_Of:function 44:by hand -/
def cols_Of.narrowL:List Int:=[0,32,127,160,173,174,768,880,1155,1162,1425,1470,1471,1472,1473,1475,1476,1478,1479,1480,1536,1542,1552,1563,1564,1565,1611,1632,1648,1649,1750,1758,1759,1765,1767,1769,1770,1774,2274,2275,2362,2363,2364,2365,2369,2377,2381,2382,3633,3634,3636,3643,3655,3663,4448,4608,6832,6863,7616,7680,8203,8208,8232,8239,8288,8304,8400,8433,12330,12334,12441,12443,42607,42611,55216,55292,64286,64287,65024,65040,65056,65072,65279,65280,65529,65532,917505,917632,917760,918000]
def cols_Of.wideL:List Int:=[4352,4448,8986,8988,9193,9197,9200,9201,9203,9204,9725,9727,9748,9750,9800,9812,9855,9856,9875,9876,9889,9890,9898,9900,9917,9919,9924,9926,9934,9935,9940,9941,9962,9963,9970,9972,9973,9974,9978,9979,9981,9982,9989,9990,9994,9996,10024,10025,10060,10061,10062,10063,10067,10070,10071,10072,10133,10136,10160,10161,10175,10176,11035,11037,11088,11089,11093,11094,11904,11930,11931,12020,12032,12246,12272,12330,12334,12351,12353,12439,12443,12544,12549,12592,12593,12687,12688,12772,12784,12831,12832,12872,12880,19904,19968,42125,42128,42183,43360,43389,44032,55204,63744,64256,65040,65050,65072,65107,65108,65127,65128,65132,65281,65377,65504,65511,126980,126981,127183,127184,127374,127375,127377,127387,127462,127491,127744,127777,127789,127798,127799,127869,127870,127892,127904,127947,127951,127956,127968,127985,127988,127989,127992,128063,128064,128065,128066,128253,128255,128318,128331,128335,128336,128360,128378,128379,128405,128407,128420,128421,128507,128592,128640,128710,128716,128717,128720,128723,128747,128749,128756,128765,129292,129339,129340,129350,129351,129536,129648,129792,131072,196606,196608,262142]
def cols_Of.oddIn (l:List Int) (c:Int):Bool:=l.countP (fun x=>decide (x≤c)) % 2==1
def cols_Of.f (a0:Int):Option Int:=some (if cols_Of.oddIn cols_Of.narrowL a0=true then 0 else if cols_Of.oddIn cols_Of.wideL a0=true then 2 else 1)
section
open Go.Proofs.YteoaegigjlhamaaH
theorem cols_Of.less_le (x y:Int) (W:World) (h:x≤y):Calls Try.prog 98 #[.int .i64 x,.int .i64 y] W fun e w'=>e= .returned (.int .i64 (-1))∧Below W.heap.size W w':=by
 have hb:decide (x≤y)=true:=decide_eq_true h
 clear h
 go_enter Try.func98,Try.ntmps98
 go_wp2
 go_ret
 exact ⟨rfl,Below.refl _ _⟩
theorem cols_Of.less_gt (x y:Int) (W:World) (h: ¬ x≤y):Calls Try.prog 98 #[.int .i64 x,.int .i64 y] W fun e w'=>e= .returned (.int .i64 1)∧Below W.heap.size W w':=by
 have hb:decide (x≤y)=false:=decide_eq_false h
 clear h
 go_enter Try.func98,Try.ntmps98
 go_wp2
 go_ret
 exact ⟨rfl,Below.refl _ _⟩
set_option maxHeartbeats 1000000 in
set_option maxRecDepth 100000 in
theorem cols_Of.search (ls:List Int) (g c n:Nat) (y:Int) (w:World) (hn:n=ls.length) (hg:g < w.heap.size) (hc: ∀ j,j < n→w.cell? ⟨g,j,none⟩=some (.int .i64 (nth ls j))) (hlen:n < 4611686018427387904) (hs: ∀ a b,a≤b→b < n→nth ls a≤nth ls b) :
  Calls Try.prog 97 #[.slice (some ⟨g,0,none⟩) n c,.int .i64 y,.func (.func 98) #[] #[]] w fun e w'=>e= .returned (.tuple #[.int .i64 ((ls.countP (fun x=>decide (x≤y)):Nat):Int),.bool false])∧Below w.heap.size w w':=by
 have eg: ∀ args w,(callFunc 98 args).run Try.prog w= .ok (.enter 98 args) w:=enters_of Try.func98 (by kernel_rfl) rfl
 have HC:=Aside0.mk hc
 have HS:=Aside0.mk hs
 have HG:=Aside0.mk hg
 have HN:=Aside0.mk hn
 have HB0:=Aside0.mk (Below.refl w.heap.size w)
 clear hc hs hg hn
 obtain ⟨cnt,hcnt⟩: ∃ m,m=ls.countP (fun x=>decide (x≤y)):=⟨_,rfl⟩
 rw [← hcnt]
 have HCN:=Aside0.mk hcnt
 clear hcnt
 go_enter Try.func97,Try.ntmps97
 go_wp2
 go_loopg [9,10] n (fun kx s9 s10 wr=> ∃ lo hi:Nat,s9= .int .i64 lo∧s10= .int .i64 hi∧lo≤hi∧hi≤n∧hi - lo≤kx∧Aside0 (Below w.heap.size w wr)∧Aside0 ((∀ t,t < lo→nth ls t≤y)∧(∀ t,hi≤t→t < n→y < nth ls t)))
 case atStart=>exact ⟨0,n,rfl,rfl,Nat.zero_le _,Nat.le_refl _,by omega,HB0,⟨fun t ht=>absurd ht (Nat.not_lt_zero _),fun t h1 h2=>by omega⟩⟩
 case round =>
  clear HB0
  obtain ⟨lo,hi,rfl,rfl,hlh,hin,hk,HB,I⟩:=hrel
  by_cases hlt:lo < hi
  ·
   have cm:wr.cell? ⟨g,(lo+hi) / 2,none⟩=some (.int .i64 (nth ls ((lo+hi) / 2))):=(HB.out.cell (p:=⟨g,(lo+hi) / 2,none⟩) HG.out).trans (HC.out _ (by omega))
   generalize hv:nth ls ((lo+hi) / 2)=v at cm
   have V:=Aside0.mk hv
   clear hv
   by_cases hvy:v≤y
   ·
    have HV:=Aside0.mk hvy
    clear hvy
    go_wp2_with (go_at_fn 98;refine (cols_Of.less_le _ _ _ HV.out).mono ?_;rintro e w2 ⟨rfl,hb2⟩;have n0_:=Aside0.mk (below_step HB.out hb2);clear HB hb2;have HB:=n0_;clear n0_)
    go_roundg (hi - ((lo+hi) / 2+1))
    case measure=>omega
    case rel =>
     refine ⟨(lo+hi) / 2+1,hi,by rw [show ((lo:Int)+(hi:Int)) / 2+1=(((lo+hi) / 2+1:Nat):Int) by omega],rfl,by omega,hin,Nat.le_refl _,HB,⟨fun t ht=>?_,I.out.2⟩⟩
     have:=HS.out t ((lo+hi) / 2) (by omega) (by omega)
     rw [V.out] at this
     have:=HV.out
     omega
   ·
    have HV:=Aside0.mk hvy
    clear hvy
    go_wp2_with (go_at_fn 98;refine (cols_Of.less_gt _ _ _ HV.out).mono ?_;rintro e w2 ⟨rfl,hb2⟩;have n0_:=Aside0.mk (below_step HB.out hb2);clear HB hb2;have HB:=n0_;clear n0_)
    go_roundg ((lo+hi) / 2 - lo)
    case measure=>omega
    case rel =>
     refine ⟨lo,(lo+hi) / 2,rfl,by rw [show ((lo:Int)+(hi:Int)) / 2=(((lo+hi) / 2:Nat):Int) by omega],by omega,by omega,Nat.le_refl _,HB,⟨I.out.1,fun t ht htn=>?_⟩⟩
     have:=HS.out ((lo+hi) / 2) t ht htn
     rw [V.out] at this
     have:=HV.out
     omega
  ·
   obtain rfl:hi=lo:=by omega
   have ecnt:cnt=hi:=by
    rw [HCN.out]
    exact count_split ls (fun x=>decide (x≤y)) hi (by rw [← HN.out];exact hin) (fun t ht=>decide_eq_true (I.out.1 t ht)) (fun t h1 h2=>decide_eq_false (by have:=I.out.2 t h1 (by rw [HN.out];exact h2);omega))
   clear HCN
   subst ecnt
   by_cases hcn:cnt < n
   ·
    have cm:wr.cell? ⟨g,cnt,none⟩=some (.int .i64 (nth ls cnt)):=(HB.out.cell (p:=⟨g,cnt,none⟩) HG.out).trans (HC.out _ hcn)
    have HV:=Aside0.mk (show ¬ nth ls cnt≤y by have:=I.out.2 cnt (Nat.le_refl _) hcn;omega)
    generalize nth ls cnt=v at cm HV
    go_wp2_with (go_at_fn 98;refine (cols_Of.less_gt _ _ _ HV.out).mono ?_;rintro e w2 ⟨rfl,hb2⟩;have n0_:=Aside0.mk (below_step HB.out hb2);clear HB hb2;have HB:=n0_;clear n0_)
    go_ret2
    exact ⟨rfl,HB.out⟩
   ·
    go_wp2
    go_ret2
    exact ⟨rfl,HB.out⟩
set_option maxRecDepth 100000 in
theorem cols_Of.narrow_build (W:World):(Instr.build 105 ((nums .i64 cols_Of.narrowL).zipIdx.map fun (x,i)=>(i,x)).toArray).run Try.prog W= .ok (.agg (nums .i64 cols_Of.narrowL).toArray) W:=by rfl
set_option maxRecDepth 100000 in
theorem cols_Of.narrow_size:(nums .i64 cols_Of.narrowL).toArray.size=90:=by decide
set_option maxHeartbeats 4000000 in
set_option maxRecDepth 100000 in
theorem cols_Of.narrow_calls (w:World):Calls Try.prog 69 #[] w fun e w'=>e= .returned (.agg (nums .i64 cols_Of.narrowL).toArray)∧Below w.heap.size w w':=by
 go_enter Try.func69,Try.ntmps69
 go_wp2_with (first|((with_reducible refine gate_dst (N:=0) rfl ?_);refine alloc_event rfl 105 rfl 90 (by kernel_rfl) ?_;intro g w1 cs hcs hg hb hbel hsz;have HG:=Aside0.mk (show w.heap.size≤g by omega);have HB:=Aside0.mk hbel;have HH:=Aside0.mk hb;have HCS:=Aside0.mk hcs;clear hcs hg hb hbel hsz)|((with_reducible refine gate_dst (N:=1) rfl ?_);refine build_event rfl (N:=1) rfl 105 (nums .i64 cols_Of.narrowL) ?ho (.agg (nums .i64 cols_Of.narrowL).toArray) (cols_Of.narrow_build _) ?_;(case ho=>kernel_rfl);generalize hV:Value.agg (nums .i64 cols_Of.narrowL).toArray=V;have HV:=Aside0.mk hV;clear hV)|((with_reducible refine gate_store (t:=105) (p:=0) rfl ?_);refine block_store rfl rfl 105 (.tmp 0) (.tmp 1) rfl rfl V rfl HH.out (by rw [HCS.out,← HV.out];exact cols_Of.narrow_size) (by rw [HCS.out];kernel_rfl) (by rw [← HV.out];exact nums_one _) ?_;intro w2 hb2 hk2 hs2 hB2;have HB2:=Aside0.mk (hB2 _ _ HB.out HG.out);have HH2:=Aside0.mk (show w2.heap[g]?=some (.cells (nums .i64 cols_Of.narrowL).toArray 105 (0,0)) by rw [← HV.out] at hb2;exact hb2);clear hb2 hk2 hs2 hB2 HB HH))
 exact bodyPost_ret (v:=(.agg (nums .i64 cols_Of.narrowL).toArray)) (results_c1 rfl _ _ _ _ _ _ _ rfl HH2.out Try.underlying105 rfl (by rw [cols_Of.narrow_size];kernel_rfl)) rfl ⟨rfl,HB2.out⟩
set_option maxRecDepth 100000 in
theorem cols_Of.wide_build (W:World):(Instr.build 107 ((nums .i64 cols_Of.wideL).zipIdx.map fun (x,i)=>(i,x)).toArray).run Try.prog W= .ok (.agg (nums .i64 cols_Of.wideL).toArray) W:=by rfl
set_option maxRecDepth 100000 in
theorem cols_Of.wide_size:(nums .i64 cols_Of.wideL).toArray.size=184:=by decide
set_option maxHeartbeats 4000000 in
set_option maxRecDepth 100000 in
theorem cols_Of.wide_calls (w:World):Calls Try.prog 70 #[] w fun e w'=>e= .returned (.agg (nums .i64 cols_Of.wideL).toArray)∧Below w.heap.size w w':=by
 go_enter Try.func70,Try.ntmps70
 go_wp2_with (first|((with_reducible refine gate_dst (N:=0) rfl ?_);refine alloc_event rfl 107 rfl 184 (by kernel_rfl) ?_;intro g w1 cs hcs hg hb hbel hsz;have HG:=Aside0.mk (show w.heap.size≤g by omega);have HB:=Aside0.mk hbel;have HH:=Aside0.mk hb;have HCS:=Aside0.mk hcs;clear hcs hg hb hbel hsz)|((with_reducible refine gate_dst (N:=1) rfl ?_);refine build_event rfl (N:=1) rfl 107 (nums .i64 cols_Of.wideL) ?ho (.agg (nums .i64 cols_Of.wideL).toArray) (cols_Of.wide_build _) ?_;(case ho=>kernel_rfl);generalize hV:Value.agg (nums .i64 cols_Of.wideL).toArray=V;have HV:=Aside0.mk hV;clear hV)|((with_reducible refine gate_store (t:=107) (p:=0) rfl ?_);refine block_store rfl rfl 107 (.tmp 0) (.tmp 1) rfl rfl V rfl HH.out (by rw [HCS.out,← HV.out];exact cols_Of.wide_size) (by rw [HCS.out];kernel_rfl) (by rw [← HV.out];exact nums_one _) ?_;intro w2 hb2 hk2 hs2 hB2;have HB2:=Aside0.mk (hB2 _ _ HB.out HG.out);have HH2:=Aside0.mk (show w2.heap[g]?=some (.cells (nums .i64 cols_Of.wideL).toArray 107 (0,0)) by rw [← HV.out] at hb2;exact hb2);clear hb2 hk2 hs2 hB2 HB HH))
 exact bodyPost_ret (v:=(.agg (nums .i64 cols_Of.wideL).toArray)) (results_c1 rfl _ _ _ _ _ _ _ rfl HH2.out Try.underlying107 rfl (by rw [cols_Of.wide_size];kernel_rfl)) rfl ⟨rfl,HB2.out⟩
set_option maxHeartbeats 1000000 in
set_option maxRecDepth 100000 in
theorem cols_Of.within_calls (ls:List Int) (g c n:Nat) (y:Int) (w:World) (hn:n=ls.length) (hg:g < w.heap.size) (hc: ∀ j,j < n→w.cell? ⟨g,j,none⟩=some (.int .i64 (nth ls j))) (hlen:n < 1000000) (hs: ∀ a b,a≤b→b < n→nth ls a≤nth ls b) :
  Calls Try.prog 71 #[.slice (some ⟨g,0,none⟩) n c,.int .i64 y] w fun e w'=>e= .returned (.bool (cols_Of.oddIn ls y))∧Below w.heap.size w w':=by
 have hcall:=fun W (hb:Below w.heap.size w W)=>cols_Of.search ls g c n y W hn (Nat.lt_of_lt_of_le hg hb.size) (fun j hj=>(hb.cell (p:=⟨g,j,none⟩) hg).trans (hc j hj)) (by omega) hs
 have HCALL:=Aside0.mk hcall
 have hle:ls.countP (fun x=>decide (x≤y))≤n:=by rw [hn];exact List.countP_le_length
 have HO:=Aside0.mk (show cols_Of.oddIn ls y=(ls.countP (fun x=>decide (x≤y)) % 2==1) from rfl)
 clear hcall hg hc hs hn
 generalize ls.countP (fun x=>decide (x≤y))=cnt at *
 rw [HO.out]
 clear HO
 by_cases hp:(cnt:Int) % 2=1
 ·
  have hq:(cnt % 2==1)=true:=by rw [beq_iff_eq];omega
  rw [hq]
  have hpb:((cnt:Int) % 2==1)=true:=beq_iff_eq.mpr hp
  clear hp hq
  go_enter Try.func71,Try.ntmps71
  go_wp2_with (go_at_call 97;refine (HCALL.out _ (Below.refl _ _)).mono ?_;rintro e w2 ⟨rfl,hb2⟩;have HB:=Aside0.mk hb2;clear hb2)
  go_ret
  exact ⟨rfl,HB.out⟩
 ·
  have hq:(cnt % 2==1)=false:=by rw [beq_eq_false_iff_ne];omega
  rw [hq]
  have hpb:((cnt:Int) % 2==1)=false:=beq_eq_false_iff_ne.mpr hp
  clear hp hq
  go_enter Try.func71,Try.ntmps71
  go_wp2_with (go_at_call 97;refine (HCALL.out _ (Below.refl _ _)).mono ?_;rintro e w2 ⟨rfl,hb2⟩;have HB:=Aside0.mk hb2;clear hb2)
  go_ret
  exact ⟨rfl,HB.out⟩
theorem cols_Of.narrow_up: ∀ a b,a≤b→b < 90→nth cols_Of.narrowL a≤nth cols_Of.narrowL b:=fun a b h1 h2=>rises_nth cols_Of.narrowL (by decide +kernel) a b h1 h2
theorem cols_Of.wide_up: ∀ a b,a≤b→b < 184→nth cols_Of.wideL a≤nth cols_Of.wideL b:=fun a b h1 h2=>rises_nth cols_Of.wideL (by decide +kernel) a b h1 h2
theorem cols_Of.blk_within (l:List Int) (n t g:Nat) (y:Int) (w W:World) (hn:n=l.length) (hlen:n < 1000000) (hh:W.heap[g]?=some (.cells (nums .i64 l).toArray t (0,0))) (hs: ∀ a b,a≤b→b < n→nth l a≤nth l b) :
  Calls Try.prog 71 #[.slice (some ⟨g,0,none⟩) n n,.int .i64 y] W fun e w'=>e= .returned (.bool (cols_Of.oddIn l y))∧Below W.heap.size W w' :=
 cols_Of.within_calls l g n n y W hn (blk_lt hh) (fun j hj=>nums_cell W g t l hh j (by rw [← hn];exact hj)) hlen hs
set_option maxHeartbeats 1000000 in
set_option maxRecDepth 100000 in
theorem cols_Of.calls (a0:Int) (r:Int) (w:World) (h:cols_Of.f a0=some r) :
  Calls Try.prog 44 #[.int .i64 a0] w fun e w'=>e= .returned (.int .i64 r)∧Below w.heap.size w w':=by
 have HB:=Aside0.mk (Below.refl w.heap.size w)
 have H:=Option.some.inj h
 have H':=Aside0.mk H
 clear H h
 go_enter Try.func44,Try.ntmps44
 go_wp2_with (first|(go_at_call 69;refine (cols_Of.narrow_calls _).mono ?_;rintro e w2 ⟨rfl,hb2⟩;have n0_:=Aside0.mk (below_step HB.out hb2);clear HB hb2;have HB:=n0_;clear n0_;generalize hV1:Value.agg (nums .i64 cols_Of.narrowL).toArray=V1;have HV1:=Aside0.mk hV1;clear hV1)|(go_at_call 70;refine (cols_Of.wide_calls _).mono ?_;rintro e w3 ⟨rfl,hb2⟩;have n0_:=Aside0.mk (below_step HB.out hb2);clear HB hb2;have HB:=n0_;clear n0_;generalize hV2:Value.agg (nums .i64 cols_Of.wideL).toArray=V2;have HV2:=Aside0.mk hV2;clear hV2)|((with_reducible refine gate_dst (N:=3) rfl ?_);refine alloc_event rfl 105 rfl 90 (by kernel_rfl) ?_;intro g3 w4 cs3 hcs hg hb hbel hsz;have HG3:=Aside0.mk (show w.heap.size≤g3 by rw [hg];exact HB.out.size);have n0_:=Aside0.mk (below_step HB.out hbel);have HH3:=Aside0.mk hb;have HCS3:=Aside0.mk hcs;clear HB hcs hg hb hbel hsz;have HB:=n0_;clear n0_)|((with_reducible refine gate_dst (N:=4) rfl ?_);refine alloc_event rfl 107 rfl 184 (by kernel_rfl) ?_;intro g4 w5 cs4 hcs hg hb hbel hsz;have HG4:=Aside0.mk (show w.heap.size≤g4 by rw [hg];exact HB.out.size);have HNE:=Aside0.mk (show g3≠g4 by have:=blk_lt HH3.out;omega);have n0_:=Aside0.mk (below_step HB.out hbel);have n1_:=Aside0.mk (blk_below HH3.out hbel);have HH4:=Aside0.mk hb;have HCS4:=Aside0.mk hcs;clear HB HH3 hcs hg hb hbel hsz;have HB:=n0_;have HH3:=n1_;clear n0_ n1_)|((with_reducible refine gate_store (t:=105) (p:=3) rfl ?_);refine block_store rfl rfl 105 (.tmp 3) (.tmp 5) rfl rfl V1 rfl HH3.out (by rw [HCS3.out,← HV1.out];exact cols_Of.narrow_size) (by rw [HCS3.out];kernel_rfl) (by rw [← HV1.out];exact nums_one _) ?_;intro w6 hb2 hk2 hs2 hB2;have n0_:=Aside0.mk (hB2 _ _ HB.out HG3.out);have n1_:=Aside0.mk (show w6.heap[g3]?=some (.cells (nums .i64 cols_Of.narrowL).toArray 105 (0,0)) by rw [← HV1.out] at hb2;exact hb2);have n2_:=Aside0.mk ((hk2 g4 (Ne.symm HNE.out)).trans HH4.out);clear hb2 hk2 hs2 hB2 HB HH3 HH4;have HB:=n0_;have HH3:=n1_;have HH4:=n2_;clear n0_ n1_ n2_)|((with_reducible refine gate_store (t:=107) (p:=4) rfl ?_);refine block_store rfl rfl 107 (.tmp 4) (.tmp 6) rfl rfl V2 rfl HH4.out (by rw [HCS4.out,← HV2.out];exact cols_Of.wide_size) (by rw [HCS4.out];kernel_rfl) (by rw [← HV2.out];exact nums_one _) ?_;intro w7 hb2 hk2 hs2 hB2;have n0_:=Aside0.mk (hB2 _ _ HB.out HG4.out);have n1_:=Aside0.mk (show w7.heap[g4]?=some (.cells (nums .i64 cols_Of.wideL).toArray 107 (0,0)) by rw [← HV2.out] at hb2;exact hb2);have n2_:=Aside0.mk ((hk2 g3 HNE.out).trans HH3.out);clear hb2 hk2 hs2 hB2 HB HH3 HH4;have HB:=n0_;have HH4:=n1_;have HH3:=n2_;clear n0_ n1_ n2_))
 refine (cols_Of.blk_within cols_Of.narrowL 90 105 g3 a0 w _ rfl (by omega) HH3.out cols_Of.narrow_up).mono ?_
 rintro e w8 ⟨rfl,hb8⟩
 have n0_:=Aside0.mk (below_step HB.out hb8)
 have n1_:=Aside0.mk (blk_below HH4.out hb8)
 clear HB HH4 HH3 hb8
 have HB:=n0_
 have HH4:=n1_
 clear n0_ n1_
 generalize hb1:cols_Of.oddIn cols_Of.narrowL a0=b1
 rw [hb1] at H'
 clear hb1
 cases b1 with
 | true =>
  obtain rfl:(0:Int)=r:=H'.out
  clear H'
  go_wp2
  go_ret
  exact ⟨rfl,HB.out⟩
 | false =>
  go_wp2_with fail
  refine (cols_Of.blk_within cols_Of.wideL 184 107 g4 a0 w _ rfl (by omega) HH4.out cols_Of.wide_up).mono ?_
  rintro e w9 ⟨rfl,hb9⟩
  have n0_:=Aside0.mk (below_step HB.out hb9)
  clear HB hb9
  have HB:=n0_
  clear n0_
  generalize hb2:cols_Of.oddIn cols_Of.wideL a0=b2
  rw [hb2] at H'
  clear hb2
  cases b2 with
  | true =>
   obtain rfl:(2:Int)=r:=H'.out
   clear H'
   go_wp2
   go_ret
   exact ⟨rfl,HB.out⟩
  | false =>
   obtain rfl:(1:Int)=r:=H'.out
   clear H'
   go_wp2
   go_ret
   exact ⟨rfl,HB.out⟩
end
/-! ### cmp_isNaN_int:function 107 -/
def cmp_isNaN_int.f (a0:Int):Option (Bool):=some (a0 !=a0)
set_option maxHeartbeats 8000000 in
set_option maxRecDepth 100000 in
theorem cmp_isNaN_int.calls (a0:Int) (r:Bool) (w:World) (h:cmp_isNaN_int.f a0=some r) :
  Calls Try.prog 107 #[.int .i64 a0] w fun e w'=>e= .returned (.bool r)∧Drawn0 w w':=by
 have H:(some (a0 !=a0))=some r:=h
 clear h
 obtain rfl:=Option.some.inj H
 go_enter Try.func107,Try.ntmps107
 go_wp2
 go_ret
 exact ⟨by first|rfl|(simp;done)|(simp [*];done),by repeat (first|exact Drawn0.refl _|apply Drawn0.step)⟩
end Go.Proofs.Yteoaegigjlhamaa.PC19
