/- Chapter 19, printed: what the functions compute, and proofs that they do. -/
import Derived.Test.YteoaegigjlhamaaPC19x0
namespace Go.Proofs.Yteoaegigjlhamaa.PC19
open Go.RowKit Go.Proofs.YteoaegigjlhamaaW.PrintWords Go.Proofs.YteoaegigjlhamaaW.PrintLast Go.Proofs.YteoaegigjlhamaaW.PrintMore
attribute [local go_sem] max2_int min2_int max_two min_two max_three min_three max_four min_four
set_option linter.unusedVariables false
set_option maxRecDepth 100000
set_option linter.unusedSimpArgs false
def y_of.l0:Nat→List Int→List (S36)→Int→Option ((List (S36)))
 | 0,_,_,_=>none
 | k+1,x0,x3,x4=>if x4 < (x0.length:Int) then (if 0≤x4 then (if x3.length < 5864062014805 then (y_of.l0 k x0 (x3++[(⟨x4,1,rd x0 x4⟩:S36)]) (wrap64 (x4+1))) else (none)) else (none)) else (some x3)
def y_of.f (k:Nat) (l0:List Int):Option ((List (S36))):=y_of.l0 k l0 ([]:List (S36)) 0
theorem y_of.mono_l: ∀ k,(∀ y0 y1 y2,LeO (y_of.l0 k y0 y1 y2) (y_of.l0 (k+1) y0 y1 y2))
 | 0=>fun _ _ _ r h=>by simp [y_of.l0] at h
 | k+1=>by
  have ih0:=y_of.mono_l k
  ·
   intros
   unfold y_of.l0
   exact TL
theorem y_of.mono: ∀ a0 k,LeO (y_of.f k a0) (y_of.f (k+1) a0):=by
 intro a0 k
 have ih0:=y_of.mono_l k
 unfold y_of.f
 repeat' first
   | (with_reducible exact ih0 _ _ _)
   | (with_reducible exact LeO.refl _)
   | (with_reducible exact LeO.none _)
   | (with_reducible refine LeO.ite ?_ ?_)
   | (with_reducible refine LeO.bind ?_ (fun _=>?_))
set_option maxHeartbeats 8000000 in
theorem y_of.calls (k:Nat) (A0:Option Addr) (c0:Nat) (l0:List Int) (r:List (S36)) (w:World) (hr0:Kd.C (Kd.int .i64) w A0 l0.length l0) (hc0:l0.length≤c0) (h:y_of.f k l0=some r) :
  Calls Try.prog 15 #[.slice A0 l0.length c0] w fun e w'=> ∃ v0_:Value,e= .returned (v0_)∧Kd.R k36 36 w' w.heap.size (fun _=>True) v0_ r∧Below w.heap.size w w':=by
 have hu36:=Try.underlying36
 have HR0:=Am hr0
 have HC0:=Am hc0
 clear hr0 hc0
 have HB:=Am (Below.refl w.heap.size w)
 have H:(y_of.l0 k l0 ([]:List (S36)) 0)=some r:=h
 clear h
 have H':=Am H
 clear H
 go_enter Try.func15,Try.ntmps15
 try dsimp only [List.append]
 go_wp2
 go_loopg [3,4] k (fun kq v3 v4 w'=> ∃ (x3_1:List (S36)) (x4_1:Int),v4= .int .i64 x4_1∧Aside0 (y_of.l0 kq l0 x3_1 x4_1=some r)∧Aside0 (kq≤k)∧Aside0 (Kd.R k36 36 w' w.heap.size (fun _=>True) v3 x3_1)∧Aside0 (Below w.heap.size w w'))
 case atStart=>exact ⟨(([]:List (S36))),(0),TS,H',⟨Nat.le_refl _⟩,⟨by first|exact Kd.R_nil _ _ _ _ _|exact Kd.N_nil _ _ _ _ _|exact Kd.V_nil _ _ _ _ _|exact Kd.Q_nil _ _ _ _ _|exact Kd.S_nil _ _ _ _ _⟩,⟨TB⟩⟩
 case round =>
  clear H'
  obtain ⟨x3_1,x4_1,rfl,HA,HK1,HO_3,HB⟩:=hrel
  cases gk with
  | zero=>exact absurd HA.out (by simp [y_of.l0])
  | succ k1 =>
   have H:=HA.out
   clear HA
   simp only [y_of.l0] at H
   by_cases c2:x4_1 < (l0.length:Int)
   rotate_left
   ·
    rw [if_neg c2] at H
    have c2b0:decide (x4_1 < (l0.length:Int))=false:=decide_eq_false c2
    clear c2
    obtain rfl:=Option.some.inj H
    go_wp2
    go_ret
    exact ⟨_,TE,RU HO_3.out,TB⟩
   rw [if_pos c2] at H
   have c2b0:decide (x4_1 < (l0.length:Int))=true:=decide_eq_true c2
   clear c2
   obtain ⟨c3,H⟩:=ifS H
   have c3b0:decide (0≤x4_1)=true:=decide_eq_true c3
   clear c3
   obtain ⟨c4,H⟩:=ifS H
   have LMc4:=Am c4
   clear c4
   obtain ⟨y102,hy102⟩: ∃ y_:List (S36),y_=(x3_1++[(⟨x4_1,1,rd l0 x4_1⟩:S36)]):=⟨_,rfl⟩
   replace H:(y_of.l0 k1 l0 y102 (wrap64 (x4_1+1)))=some r:=by first|(rw [hy102];with_reducible exact H)|(have H2_:=(Option.bind_some _ _).symm.trans H;rw [hy102];with_reducible exact H2_)|(have H2_:=(Option.bind_some _ _).symm.trans H;with_reducible exact H2_)|with_reducible exact H|(rw [hy102];exact H)|exact H
   have Ny102:=Am hy102
   clear hy102
   have H':=Am H
   clear H
   have p101:0≤(x4_1:Int):=tD
   have q101:x4_1 < (l0.length:Int):=tD
   obtain ⟨ad101,e101,hx101_0⟩:=Kd.at_int HR0.out x4_1 p101 q101
   cases e101
   replace hx101_0:=cellU HB.out hx101_0
   replace p101:=eq_true p101
   replace q101:=eq_true q101
   go_wp2_with (first|((with_reducible refine gate_builtin (b:= .append) (xs:= #[.tmp 11,.tmp 18]) rfl ?_);at_builtin;refine Kd.R_append k36 (w0:=w) w.heap.size rfl (.tmp 11) (.tmp 18) 22 36 (.agg #[(.int .i64 0),(.int .i64 0),(.int .i64 0)]) 24 rfl Try.underlying22 info36 rfl (by decide) (by omega) u3 x3_1 (⟨x4_1,1,rd l0 x4_1⟩:S36) [.int .i64 x4_1,.int .i64 1,.int .i64 (rd l0 x4_1)] (fun _=>True) (fun _=>False) rfl rfl ?aP (fun _ hk=>hk.elim) ?aF ?aO ?aB ?aS ?aL ?_;(case aP=>exact k36_mkM _ _ _ (⟨x4_1,1,rd l0 x4_1⟩:S36));(case aB=>exact TB);(case aF=>exact (fun _ _=>trivial));(case aO=>exact (RU HO_3.out));(case aS=>exact (below_size TB));(case aL=>have:=LMc4.out;omega);intro v103 w5 ho hb hg hat;rw [← Ny102.out] at ho;have HO104:=Am (ho);replace HB:=Am (hb);clear HO_3;clear ho hb hg hat))
   go_roundg k1
   case measure=>have:=HK1.out;omega
   case rel=>exact ⟨(y102),(wrap64 (x4_1+1)),TS,H',⟨by have:=HK1.out;omega⟩,⟨RU HO104.out⟩,⟨TB⟩⟩
structure gcb_Of.Row where
 f:Int
 k:Int
def gcb_Of.rowsL:List gcb_Of.Row:=[⟨0,3⟩,⟨10,2⟩,⟨11,3⟩,⟨13,1⟩,⟨14,3⟩,⟨32,0⟩,⟨127,3⟩,⟨160,0⟩,⟨173,3⟩,⟨174,0⟩,⟨768,4⟩,⟨880,0⟩,⟨1155,4⟩,⟨1162,0⟩,⟨1425,4⟩,⟨1470,0⟩,⟨1471,4⟩,⟨1472,0⟩,⟨1473,4⟩,⟨1475,0⟩,⟨1476,4⟩,⟨1478,0⟩,⟨1479,4⟩,⟨1480,0⟩,⟨1536,7⟩,⟨1542,0⟩,⟨1552,4⟩,⟨1563,0⟩,⟨1564,3⟩,⟨1565,0⟩,⟨1611,4⟩,⟨1632,0⟩,⟨1648,4⟩,⟨1649,0⟩,⟨1750,4⟩,⟨1757,7⟩,⟨1758,0⟩,⟨1759,4⟩,⟨1765,0⟩,⟨1767,4⟩,⟨1769,0⟩,⟨1770,4⟩,⟨1774,0⟩,⟨1807,7⟩,⟨1808,0⟩,⟨2274,7⟩,⟨2275,0⟩,⟨2307,8⟩,⟨2308,0⟩,⟨2362,4⟩,⟨2363,8⟩,⟨2364,4⟩,⟨2365,0⟩,⟨2366,8⟩,⟨2369,4⟩,⟨2377,8⟩,⟨2381,4⟩,⟨2382,8⟩,⟨2384,0⟩,⟨2434,8⟩,⟨2436,0⟩,⟨2494,4⟩,⟨2495,0⟩,⟨3406,7⟩,⟨3407,0⟩,⟨3633,4⟩,⟨3634,0⟩,⟨3635,8⟩,⟨3636,4⟩,⟨3643,0⟩,⟨3655,4⟩,⟨3663,0⟩,⟨3763,8⟩,⟨3764,0⟩,⟨4352,9⟩,⟨4448,10⟩,⟨4520,11⟩,⟨4608,0⟩,⟨6158,3⟩,⟨6159,0⟩,⟨6832,4⟩,⟨6863,0⟩,⟨7616,4⟩,⟨7680,0⟩,⟨8203,3⟩,⟨8204,4⟩,⟨8205,5⟩,⟨8206,3⟩,⟨8208,0⟩,⟨8232,3⟩,⟨8239,0⟩,⟨8288,3⟩,⟨8304,0⟩,⟨8400,4⟩,⟨8433,0⟩,⟨12330,4⟩,⟨12336,0⟩,⟨12441,4⟩,⟨12443,0⟩,⟨42607,4⟩,⟨42611,0⟩,⟨43360,9⟩,⟨43389,0⟩,⟨55216,10⟩,⟨55239,0⟩,⟨55243,11⟩,⟨55292,0⟩,⟨64286,4⟩,⟨64287,0⟩,⟨65024,4⟩,⟨65040,0⟩,⟨65056,4⟩,⟨65072,0⟩,⟨65279,3⟩,⟨65280,0⟩,⟨65438,4⟩,⟨65440,0⟩,⟨65520,3⟩,⟨65532,0⟩,⟨127462,6⟩,⟨127488,0⟩,⟨127995,4⟩,⟨128000,0⟩,⟨917504,3⟩,⟨917536,4⟩,⟨917632,3⟩,⟨917760,4⟩,⟨918000,0⟩]
def gcb_Of.cells (r:gcb_Of.Row):List Value:=[.int .i64 r.f,.int .i64 r.k]
def gcb_Of.all:List Value:=gcb_Of.rowsL.flatMap gcb_Of.cells
def gcb_Of.z:gcb_Of.Row:=⟨0,0⟩
def gcb_Of.row (j:Nat):gcb_Of.Row:=gcb_Of.rowsL.getD j gcb_Of.z
def gcb_Of.kd:List gcb_Of.Row→Int→Int→Int
 | [],d,_=>d
 | r::l,d,c=>if r.f≤c then gcb_Of.kd l r.k c else d
def gcb_Of.kindV (k c:Int):Int:=if c < 44032∨c > 55203 then k else if Int.tmod (c - 44032) 28=0 then 12 else 13
def gcb_Of.val (c:Int):Int:=if c < 0 then 0 else gcb_Of.kindV (gcb_Of.kd gcb_Of.rowsL 0 c) c
def gcb_Of.f (a0:Int):Option Int:=if -9223372036854775808≤a0∧a0≤9223372036854775807 then some (gcb_Of.val a0) else none
section
open Go.Proofs.YteoaegigjlhamaaH
theorem gcb_Of.rows_size:(gcb_Of.all).toArray.size=256:=by decide
theorem gcb_Of.rows_one: ∀ q ∈ (Value.agg gcb_Of.all.toArray).cells.toList,q.oneCell'=true:=by
 intro q hq
 have hq':q ∈ gcb_Of.all:=by simpa [Value.cells] using hq
 unfold gcb_Of.all at hq'
 obtain ⟨r,_,hr⟩:=List.mem_flatMap.1 hq'
 unfold gcb_Of.cells at hr
 simp only [List.mem_cons,List.not_mem_nil,or_false] at hr
 rcases hr with rfl|rfl <;> rfl
set_option maxHeartbeats 4000000 in
theorem gcb_Of.rows_calls (w:World):Calls Try.prog 65 #[] w fun e w'=>e= .returned (.agg gcb_Of.all.toArray)∧Below w.heap.size w w':=by
 go_enter Try.func65,Try.ntmps65
 refine wp_seq (wp_region_list ?_)
 refine alloc_event rfl 99 rfl 256 TK ?_
 intro g w1 cs hcs hg hb hbel hsz
 refine wpList_nil (wp_seq (wp_region_list ?_))
 refine builds_event 129 _ 0 129 (.pointer (some ⟨g,0,none⟩)) (.agg gcb_Of.all.toArray) TK ?_
 rintro ⟨tm,df⟩ h1 h2 h3
 have hs:=gcb_Of.rows_size
 have ho:=gcb_Of.rows_one
 generalize hV:Value.agg gcb_Of.all.toArray=V at *
 refine block_store rfl rfl 99 (.tmp 0) (.tmp 129) rfl h1 V h2 hb (by rw [hcs,← hV];exact hs) (by rw [hcs];kernel_rfl) ho ?_
 intro w2 hb2 hk2 hs2 hB2
 refine wpList_nil (wp_ret ?_)
 subst hV
 exact bodyPost_ret (v:= .agg gcb_Of.all.toArray) (results_c1 rfl _ _ _ _ _ _ _ h1 hb2 Try.underlying99 rfl (by rw [hs];kernel_rfl)) h3 ⟨rfl,hB2 _ _ hbel (by omega)⟩
theorem gcb_Of.cmp (f k c:Int) (W:World):Calls Try.prog 67 #[.agg #[.int .i64 f,.int .i64 k],.int .i64 c] W fun e w'=>e= .returned (.int .i64 (wrap64 (f - c)))∧Below W.heap.size W w':=by
 go_enter Try.func67,Try.ntmps67
 go_wp2
 go_ret
 exact ⟨by first|rfl|simp [wrap64],below_alloc (Below.refl _ _) _⟩
def gcb_Of.SPost (S:Nat→Int) (n:Nat) (w:World) (e:Ending) (w':World):Prop :=
 ∃ q:Nat,e= .returned (.tuple #[.int .i64 (q:Int),.bool (decide (q < n∧S q=0))])∧Below w.heap.size w w'∧q≤n∧((∀ a b,a≤b→b < n→S b < 0→S a < 0)→(∀ t,t < q→S t < 0)∧(∀ t,q≤t→t < n→0≤S t))
set_option maxHeartbeats 1000000 in
theorem gcb_Of.search (R:Nat→gcb_Of.Row) (S:Nat→Int) (g c n:Nat) (y:Int) (w:World) (hg:g < w.heap.size) (hc: ∀ j,j < n→ ∀ (k:Nat) v,(gcb_Of.cells (R j))[k]?=some v→w.cell? ⟨g,j * 2+k,none⟩=some v) (hlen:n < 1000000)
  (hS: ∀ j,j < n→ ∀ W:World,Calls Try.prog 67 #[.agg #[.int .i64 (R j).f,.int .i64 (R j).k],.int .i64 y] W fun e w'=>e= .returned (.int .i64 (S j))∧Below W.heap.size W w') :
  Calls Try.prog 66 #[.slice (some ⟨g,0,none⟩) n c,.int .i64 y,.func (.func 67) #[] #[]] w (gcb_Of.SPost S n w):=by
 have eg: ∀ args w,(callFunc 67 args).run Try.prog w= .ok (.enter 67 args) w:=enters_of Try.func67 TK rfl
 have HC:=Am hc
 have HSC:=Am hS
 have HG:=Am hg
 have HB0:=Am (Below.refl w.heap.size w)
 clear hc hS hg
 go_enter Try.func66,Try.ntmps66
 go_wp2
 go_loopg [9,10] n (fun kx s9 s10 wr=> ∃ lo hi:Nat,s9= .int .i64 lo∧s10= .int .i64 hi∧lo≤hi∧hi≤n∧hi - lo≤kx∧Aside0 (Below w.heap.size w wr)∧Aside0 ((∀ a b,a≤b→b < n→S b < 0→S a < 0)→(∀ t,t < lo→S t < 0)∧(∀ t,hi≤t→t < n→0≤S t)))
 case atStart=>exact ⟨0,n,rfl,rfl,Nat.zero_le _,Nat.le_refl _,by omega,HB0,⟨fun _=>⟨fun t ht=>absurd ht (Nat.not_lt_zero _),fun t h1 h2=>by omega⟩⟩⟩
 case round =>
  clear HB0
  obtain ⟨lo,hi,rfl,rfl,hlh,hin,hk,HB,I⟩:=hrel
  by_cases hlt:lo < hi
  ·
   have cm: ∀ (k:Nat) v,(gcb_Of.cells (R ((lo+hi) / 2)))[k]?=some v→wr.cell? ⟨g,(lo+hi) / 2 * 2+k,none⟩=some v:=fun k v h=>(HB.out.cell (p:=⟨g,(lo+hi) / 2 * 2+k,none⟩) HG.out).trans (HC.out _ (by omega) k v h)
   have hsm:=HSC.out ((lo+hi) / 2) (by omega)
   rcases hv:R ((lo+hi) / 2) with ⟨rf,rk⟩
   rw [hv] at cm hsm
   have cm0:wr.cell? ⟨g,(lo+hi) / 2 * 2,none⟩=some (.int .i64 rf):=cm 0 _ rfl
   have cm1:wr.cell? ⟨g,(lo+hi) / 2 * 2+1,none⟩=some (.int .i64 rk):=cm 1 _ rfl
   clear hv cm
   have HSM:=Am hsm
   clear hsm
   generalize hsv:S ((lo+hi) / 2)=s at HSM
   have V:=Am hsv
   clear hsv
   by_cases h1:s < 0
   ·
    have HV:=Am h1
    have hb1:decide (s < 0)=true:=decide_eq_true h1
    clear h1
    go_wp2_with (go_at_fn 67;refine (HSM.out _).mono ?_;rintro e w2 ⟨rfl,hb2⟩;replace HB:=Am (below_step HB.out hb2);clear hb2)
    go_roundg (hi - ((lo+hi) / 2+1))
    case measure=>omega
    case rel =>
     refine ⟨(lo+hi) / 2+1,hi,by rw [show ((lo:Int)+(hi:Int)) / 2+1=(((lo+hi) / 2+1:Nat):Int) by omega],rfl,by omega,hin,Nat.le_refl _,HB,⟨fun hm=>⟨fun t ht=>?_,(I.out hm).2⟩⟩⟩
     exact hm t ((lo+hi) / 2) (by omega) (by omega) (by rw [V.out];exact HV.out)
   ·
    have HV:=Am h1
    have hb1:decide (s < 0)=false:=decide_eq_false h1
    clear h1
    go_wp2_with (go_at_fn 67;refine (HSM.out _).mono ?_;rintro e w2 ⟨rfl,hb2⟩;replace HB:=Am (below_step HB.out hb2);clear hb2)
    go_roundg ((lo+hi) / 2 - lo)
    case measure=>omega
    case rel =>
     refine ⟨lo,(lo+hi) / 2,rfl,by rw [show ((lo:Int)+(hi:Int)) / 2=(((lo+hi) / 2:Nat):Int) by omega],by omega,by omega,Nat.le_refl _,HB,⟨fun hm=>⟨(I.out hm).1,fun t ht htn=>?_⟩⟩⟩
     have h5:=HV.out
     rw [← V.out] at h5
     refine Int.not_lt.1 (fun h6=>absurd (hm ((lo+hi) / 2) t ht htn h6) (Int.not_lt.2 (Int.not_lt.1 (fun h7=>absurd h7 (by simpa using h5)))))
  ·
   obtain rfl:hi=lo:=by omega
   by_cases hcn:hi < n
   ·
    have cm: ∀ (k:Nat) v,(gcb_Of.cells (R hi))[k]?=some v→wr.cell? ⟨g,hi * 2+k,none⟩=some v:=fun k v h=>(HB.out.cell (p:=⟨g,hi * 2+k,none⟩) HG.out).trans (HC.out _ hcn k v h)
    have hsm:=HSC.out hi hcn
    rcases hv:R hi with ⟨rf,rk⟩
    rw [hv] at cm hsm
    have cm0:wr.cell? ⟨g,hi * 2,none⟩=some (.int .i64 rf):=cm 0 _ rfl
    have cm1:wr.cell? ⟨g,hi * 2+1,none⟩=some (.int .i64 rk):=cm 1 _ rfl
    clear hv cm
    have HSM:=Am hsm
    clear hsm
    generalize hsv:S hi=s at HSM
    have V:=Am hsv
    clear hsv
    by_cases h1:s=0
    ·
     subst h1
     go_wp2_with (go_at_fn 67;refine (HSM.out _).mono ?_;rintro e w2 ⟨rfl,hb2⟩;replace HB:=Am (below_step HB.out hb2);clear hb2)
     go_ret2
     exact ⟨hi,by rw [decide_eq_true (show hi < n∧S hi=0 from ⟨hcn,V.out⟩)];rfl,HB.out,hin,I.out⟩
    ·
     have hb1:(s==0)=false:=beq_eq_false_iff_ne.2 h1
     have HV:=Am h1
     clear h1
     go_wp2_with (go_at_fn 67;refine (HSM.out _).mono ?_;rintro e w2 ⟨rfl,hb2⟩;replace HB:=Am (below_step HB.out hb2);clear hb2)
     go_ret2
     exact ⟨hi,by rw [decide_eq_false (show ¬ (hi < n∧S hi=0) from fun h=>HV.out (V.out▸h.2))];rfl,HB.out,hin,I.out⟩
   ·
    go_wp2
    go_ret2
    exact ⟨hi,by rw [decide_eq_false (show ¬ (hi < n∧S hi=0) from fun h=>hcn h.1)];rfl,HB.out,hin,I.out⟩
theorem gcb_Of.flat_at: ∀ (l:List gcb_Of.Row) (j k:Nat) (v:Value),j < l.length→(gcb_Of.cells (l.getD j gcb_Of.z))[k]?=some v→(l.flatMap gcb_Of.cells)[j * 2+k]?=some v
 | [],j,k,v,h,_=>by simp at h
 | r::l,0,k,v,h,hk=>by
  have hk4:k < 2:=by
   have:=(List.getElem?_eq_some_iff.1 hk).1
   simpa [gcb_Of.cells] using this
  rw [List.flatMap_cons,Nat.zero_mul,Nat.zero_add,List.getElem?_append_left (by simpa [gcb_Of.cells] using hk4)]
  exact hk
 | r::l,j+1,k,v,h,hk=>by
  rw [List.flatMap_cons,List.getElem?_append_right (by simp [gcb_Of.cells];omega)]
  have:=gcb_Of.flat_at l j k v (by simpa using h) hk
  rw [show (j+1) * 2+k - (gcb_Of.cells r).length=j * 2+k by simp [gcb_Of.cells];omega]
  exact this
theorem gcb_Of.blk_cells (W:World) (g:Nat) (h:W.heap[g]?=some (.cells gcb_Of.all.toArray 99 (0,0))) (j:Nat) (hj:j < 128) (k:Nat) (v:Value) (hk:(gcb_Of.cells (gcb_Of.row j))[k]?=some v):W.cell? ⟨g,j * 2+k,none⟩=some v:=by
 rw [blk_cell h]
 have:=gcb_Of.flat_at gcb_Of.rowsL j k v hj hk
 simpa [gcb_Of.all] using this
theorem gcb_Of.row_facts: ∀ j,j < 128→0≤(gcb_Of.row j).f∧(gcb_Of.row j).f≤1000000∧0≤(gcb_Of.row j).k∧(gcb_Of.row j).k≤13:=by
 have h: ∀ j:Fin 128,0≤(gcb_Of.row j.val).f∧(gcb_Of.row j.val).f≤1000000∧0≤(gcb_Of.row j.val).k∧(gcb_Of.row j.val).k≤13:=by decide +kernel
 exact fun j hj=>h ⟨j,hj⟩
theorem gcb_Of.row_up: ∀ a b,a < b→b < 128→(gcb_Of.row a).f < (gcb_Of.row b).f:=by
 have h: ∀ b:Fin 128,∀ a:Fin b.val,(gcb_Of.row a.val).f < (gcb_Of.row b.val).f:=by decide +kernel
 exact fun a b h1 h2=>h ⟨b,h2⟩ ⟨a,h1⟩
theorem gcb_Of.kd_at: ∀ (l:List gcb_Of.Row) (d c:Int) (m:Nat),m < l.length→(∀ t,t≤m→(l.getD t gcb_Of.z).f≤c)→(∀ t,m < t→t < l.length→c < (l.getD t gcb_Of.z).f)→gcb_Of.kd l d c=(l.getD m gcb_Of.z).k
 | [],d,c,m,hm,_,_=>by simp at hm
 | r::l,d,c,0,hm,h1,h2=>by
  have h3:r.f≤c:=h1 0 (Nat.le_refl _)
  unfold gcb_Of.kd
  rw [if_pos h3]
  cases l with
  | nil=>rfl
  | cons s l =>
   have h4:c < s.f:=h2 1 (by omega) (by simp)
   unfold gcb_Of.kd
   rw [if_neg (by omega)]
   rfl
 | r::l,d,c,m+1,hm,h1,h2=>by
  have h3:r.f≤c:=h1 0 (Nat.zero_le _)
  unfold gcb_Of.kd
  rw [if_pos h3,gcb_Of.kd_at l r.k c m (by simpa using hm) (fun t ht=>by simpa using h1 (t+1) (by omega)) (fun t ht1 ht2=>by simpa using h2 (t+1) (by omega) (by simpa using ht2))]
  simp
theorem gcb_Of.kind_calls (k c:Int) (w:World) (h1: -9223372036854775808≤c) (h2:c≤9223372036854775807):Calls Try.prog 68 #[.int .i64 k,.int .i64 c] w fun e w'=>e= .returned (.int .i64 (gcb_Of.kindV k c))∧w=w':=by
 unfold gcb_Of.kindV
 by_cases g1:c < 44032
 ·
  rw [if_pos (.inl g1)]
  have b1:decide (c < 44032)=true:=decide_eq_true g1
  clear g1
  go_enter Try.func68,Try.ntmps68
  go_wp2
  go_ret
  exact ⟨rfl,rfl⟩
 ·
  by_cases g2:c > 55203
  ·
   rw [if_pos (.inr g2)]
   have b1:decide (c < 44032)=false:=decide_eq_false g1
   have b2:decide (55203 < c)=true:=decide_eq_true g2
   clear g1 g2
   go_enter Try.func68,Try.ntmps68
   go_wp2
   go_ret
   exact ⟨rfl,rfl⟩
  ·
   rw [if_neg (by omega)]
   have q1:44032≤c:=by omega
   have q2:c≤55203:=by omega
   have e1:Int.tmod (c - 44032) 28=(c - 44032) % 28:=Int.tmod_eq_emod_of_nonneg (by omega)
   have b1:decide (c < 44032)=false:=decide_eq_false g1
   have b2:decide (55203 < c)=false:=decide_eq_false g2
   rw [e1]
   clear e1 g1 g2
   by_cases g3:(c - 44032) % 28=0
   ·
    rw [if_pos g3]
    have b3:((c - 44032) % 28==0)=true:=beq_iff_eq.2 g3
    clear g3
    go_enter Try.func68,Try.ntmps68
    go_wp2
    go_ret
    exact ⟨rfl,rfl⟩
   ·
    rw [if_neg g3]
    have b3:((c - 44032) % 28==0)=false:=beq_eq_false_iff_ne.2 g3
    clear g3
    go_enter Try.func68,Try.ntmps68
    go_wp2
    go_ret
    exact ⟨rfl,rfl⟩
set_option maxHeartbeats 4000000 in
theorem gcb_Of.calls (a0:Int) (r:Int) (w:World) (h:gcb_Of.f a0=some r) :
  Calls Try.prog 43 #[.int .i64 a0] w fun e w'=>e= .returned (.int .i64 r)∧Below w.heap.size w w':=by
 have hrng: -9223372036854775808≤a0∧a0≤9223372036854775807:=by
  unfold gcb_Of.f at h
  split at h
  ·
   assumption
  ·
   cases h
 have hv:gcb_Of.val a0=r:=by
  unfold gcb_Of.f at h
  rw [if_pos hrng] at h
  exact Option.some.inj h
 clear h
 have HV:=Am hv
 clear hv
 have HSZ:=Am gcb_Of.rows_size
 have HONE:=Am gcb_Of.rows_one
 have HROWS:=Am gcb_Of.rows_calls
 have HBC:=Am gcb_Of.blk_cells
 have HSE:=Am (fun g W c (hg:g < W.heap.size) hc=>gcb_Of.search gcb_Of.row (fun j=>wrap64 ((gcb_Of.row j).f - a0)) g c 128 a0 W hg hc (by decide) (fun j _ W=>gcb_Of.cmp _ _ _ _))
 have HFA:=Am gcb_Of.row_facts
 have HUP:=Am gcb_Of.row_up
 have HKD:=Am (gcb_Of.kd_at gcb_Of.rowsL 0 a0)
 generalize hall:gcb_Of.all=al at *
 go_enter Try.func43,Try.ntmps43
 go_wp2_with (first|(go_at_call 65;refine (HROWS.out _).mono ?_;rintro e w1 ⟨rfl,hb1⟩;have HB:=Am hb1;clear hb1)|((with_reducible refine gate_dst (N:=3) rfl ?_);refine alloc_event rfl 99 rfl 256 TK ?_;intro g w2 cs hcs hg hb hbel hsz;have HG:=Am (show w.heap.size≤g by have:=HB.out.size;omega);replace HB:=Am (below_step HB.out hbel);have HK1:=Am hb;have HCS:=Am hcs;clear hcs hg hb hbel hsz)|((with_reducible refine gate_store (t:=99) (p:=3) rfl ?_);refine block_store rfl rfl 99 (.tmp 3) (.tmp 6) rfl rfl (.agg al.toArray) rfl HK1.out (by rw [HCS.out];exact HSZ.out) (by rw [HCS.out];kernel_rfl) HONE.out ?_;intro w3 hb3 hk3 hs3 hB3;replace HB:=Am (hB3 _ _ HB.out HG.out);have HK2:=Am hb3;clear HK1 hb3 hk3 hs3 hB3;have HGW:=Am (show g < w3.heap.size by obtain ⟨h_,_⟩:=Array.getElem?_eq_some_iff.1 HK2.out;exact h_)))
 refine (HSE.out g _ _ HGW.out (fun j hj k v h_=>HBC.out _ g HK2.out j hj k v h_)).mono ?_
 rintro e w4 ⟨q,rfl,hb4,hqn,hmq⟩
 have HC4:=Am (fun j hj k v h_=>(hb4.cell (p:=⟨g,j * 2+k,none⟩) HGW.out).trans (HBC.out _ g HK2.out j hj k v h_))
 replace HB:=Am (below_step HB.out hb4)
 clear hb4 HK2
 have HMQ:=Am hmq
 clear hmq
 by_cases hneg:a0 < 0
 ·
  obtain rfl:(0:Int)=r:=by rw [← HV.out];unfold gcb_Of.val;rw [if_pos hneg]
  have hb0:decide (a0 < 0)=true:=decide_eq_true hneg
  clear HV hneg HMQ
  generalize decide (q < 128∧(fun j=>wrap64 ((gcb_Of.row j).f - a0)) q=0)=bb
  cases bb
  ·
   go_wp2
   go_ret
   exact ⟨rfl,HB.out⟩
  ·
   go_wp2
   go_ret
   exact ⟨rfl,HB.out⟩
 ·
  have hS: ∀ t,t < 128→wrap64 ((gcb_Of.row t).f - a0)=(gcb_Of.row t).f - a0:=fun t ht=>by
   have:=HFA.out t ht
   unfold wrap64
   omega
  have hmono:=HMQ.out (fun a b hab hb hsb=>by
   have e1:=hS a (by omega)
   have e2:=hS b hb
   simp only [e1,e2] at hsb ⊢
   by_cases e:a=b
   ·
    subst e;exact hsb
   ·
    have:=HUP.out a b (by omega) hb
    omega)
  obtain ⟨m,hm,hat,hm1,hm2⟩: ∃ m:Nat,m < 128∧(m=if q < 128∧wrap64 ((gcb_Of.row q).f - a0)=0 then q else q - 1)∧((q < 128∧wrap64 ((gcb_Of.row q).f - a0)=0)∨1≤q)∧((∀ t,t≤m→(gcb_Of.row t).f≤a0)∧(∀ t,m < t→t < 128→a0 < (gcb_Of.row t).f)):=by
   obtain ⟨g1,g2⟩:=hmono
   by_cases hb:q < 128∧wrap64 ((gcb_Of.row q).f - a0)=0
   ·
    refine ⟨q,hb.1,by rw [if_pos hb],.inl hb,fun t ht=>?_,fun t ht1 ht2=>?_⟩
    ·
     have e:=hS q hb.1
     by_cases h:t=q
     ·
      subst h;omega
     ·
      have:=HUP.out t q (by omega) hb.1
      omega
    ·
     have e:=hS q hb.1
     have:=HUP.out q t ht1 ht2
     omega
   ·
    have hq1:1≤q:=by
     refine Nat.one_le_iff_ne_zero.2 (fun h0=>hb ?_)
     subst h0
     have e0:(gcb_Of.row 0).f=0:=rfl
     have e:=hS 0 (by omega)
     have:=g2 0 (Nat.le_refl _) (by omega)
     simp only [e] at this
     exact ⟨by omega,by omega⟩
    refine ⟨q - 1,by omega,by rw [if_neg hb],.inr hq1,fun t ht=>?_,fun t ht1 ht2=>?_⟩
    ·
     have e:=hS t (by omega)
     have:=g1 t (by omega)
     simp only [e] at this
     omega
    ·
     have e:=hS t ht2
     have h3:=g2 t (by omega) ht2
     simp only [e] at h3
     by_cases h:t=q
     ·
      subst h
      have: ¬ (wrap64 ((gcb_Of.row t).f - a0)=0):=fun h=>hb ⟨ht2,h⟩
      omega
     ·
      have e4:=hS q (by omega)
      have h4:=g2 q (Nat.le_refl _) (by omega)
      simp only [e4] at h4
      have:=HUP.out q t (by omega) ht2
      omega
  have hk:gcb_Of.kd gcb_Of.rowsL 0 a0=(gcb_Of.row m).k:=HKD.out m hm hm2.1 hm2.2
  have hcm:w4.cell? ⟨g,m * 2+1,none⟩=some (.int .i64 (gcb_Of.row m).k):=HC4.out m hm 1 _ rfl
  have hvr:r=gcb_Of.kindV (gcb_Of.row m).k a0:=by
   rw [← HV.out,← hk];unfold gcb_Of.val;rw [if_neg hneg]
  clear HV HMQ HKD HFA HUP hmono hm2 hS HC4 hk
  have hb0:decide (a0 < 0)=false:=decide_eq_false hneg
  have ha0:0≤a0:=Int.not_lt.1 hneg
  clear hneg
  generalize (gcb_Of.row m).k=kk at *
  have HVR:=Am hvr
  clear hvr
  by_cases hb:q < 128∧wrap64 ((gcb_Of.row q).f - a0)=0
  ·
   rw [if_pos hb] at hat
   rw [show decide (q < 128∧(fun j=>wrap64 ((gcb_Of.row j).f - a0)) q=0)=true from decide_eq_true hb]
   subst hat
   clear hb hm1
   go_wp2_with (go_at_call 68;refine (gcb_Of.kind_calls _ _ _ hrng.1 hrng.2).mono ?_;rintro e w5 ⟨rfl,rfl⟩)
   go_ret
   exact ⟨by rw [HVR.out];rfl,HB.out⟩
  ·
   rw [if_neg hb] at hat
   have hq1:1≤q:=by
    rcases hm1 with h|h
    ·
     exact absurd h hb
    ·
     exact h
   rw [show decide (q < 128∧(fun j=>wrap64 ((gcb_Of.row j).f - a0)) q=0)=false from decide_eq_false hb]
   obtain rfl:q=m+1:=by omega
   clear hb hm1 hat hq1
   have hmm:(((m+1:Nat):Int) - 1)=(m:Int):=by omega
   go_wp2_with (go_at_call 68;refine (gcb_Of.kind_calls _ _ _ hrng.1 hrng.2).mono ?_;rintro e w5 ⟨rfl,rfl⟩)
   go_ret
   exact ⟨by rw [HVR.out];rfl,HB.out⟩
end
def cols_Of.narrowL:List Int:=[0,32,127,160,173,174,768,880,1155,1162,1425,1470,1471,1472,1473,1475,1476,1478,1479,1480,1536,1542,1552,1563,1564,1565,1611,1632,1648,1649,1750,1758,1759,1765,1767,1769,1770,1774,2274,2275,2362,2363,2364,2365,2369,2377,2381,2382,3633,3634,3636,3643,3655,3663,4448,4608,6832,6863,7616,7680,8203,8208,8232,8239,8288,8304,8400,8433,12330,12334,12441,12443,42607,42611,55216,55292,64286,64287,65024,65040,65056,65072,65279,65280,65529,65532,917505,917632,917760,918000]
def cols_Of.wideL:List Int:=[4352,4448,8986,8988,9193,9197,9200,9201,9203,9204,9725,9727,9748,9750,9800,9812,9855,9856,9875,9876,9889,9890,9898,9900,9917,9919,9924,9926,9934,9935,9940,9941,9962,9963,9970,9972,9973,9974,9978,9979,9981,9982,9989,9990,9994,9996,10024,10025,10060,10061,10062,10063,10067,10070,10071,10072,10133,10136,10160,10161,10175,10176,11035,11037,11088,11089,11093,11094,11904,11930,11931,12020,12032,12246,12272,12330,12334,12351,12353,12439,12443,12544,12549,12592,12593,12687,12688,12772,12784,12831,12832,12872,12880,19904,19968,42125,42128,42183,43360,43389,44032,55204,63744,64256,65040,65050,65072,65107,65108,65127,65128,65132,65281,65377,65504,65511,126980,126981,127183,127184,127374,127375,127377,127387,127462,127491,127744,127777,127789,127798,127799,127869,127870,127892,127904,127947,127951,127956,127968,127985,127988,127989,127992,128063,128064,128065,128066,128253,128255,128318,128331,128335,128336,128360,128378,128379,128405,128407,128420,128421,128507,128592,128640,128710,128716,128717,128720,128723,128747,128749,128756,128765,129292,129339,129340,129350,129351,129536,129648,129792,131072,196606,196608,262142]
def cols_Of.oddIn (l:List Int) (c:Int):Bool:=l.countP (fun x=>decide (x≤c)) % 2==1
def cols_Of.f (a0:Int):Option Int:=some (if cols_Of.oddIn cols_Of.narrowL a0=true then 0 else if cols_Of.oddIn cols_Of.wideL a0=true then 2 else 1)
section
open Go.Proofs.YteoaegigjlhamaaH
theorem cols_Of.less_le (x y:Int) (W:World) (h:x≤y):Calls Try.prog 98 #[.int .i64 x,.int .i64 y] W fun e w'=>e= .returned (.int .i64 (-1))∧Below W.heap.size W w':=by
 have hb:decide (x≤y)=true:=decide_eq_true h
 clear h
 go_enter Try.func98,Try.ntmps98
 go_wp2
 go_ret
 exact ⟨rfl,Below.refl _ _⟩
theorem cols_Of.less_gt (x y:Int) (W:World) (h: ¬ x≤y):Calls Try.prog 98 #[.int .i64 x,.int .i64 y] W fun e w'=>e= .returned (.int .i64 1)∧Below W.heap.size W w':=by
 have hb:decide (x≤y)=false:=decide_eq_false h
 clear h
 go_enter Try.func98,Try.ntmps98
 go_wp2
 go_ret
 exact ⟨rfl,Below.refl _ _⟩
set_option maxHeartbeats 1000000 in
theorem cols_Of.search (ls:List Int) (g c n:Nat) (y:Int) (w:World) (hn:n=ls.length) (hg:g < w.heap.size) (hc: ∀ j,j < n→w.cell? ⟨g,j,none⟩=some (.int .i64 (nth ls j))) (hlen:n < 4611686018427387904) (hs: ∀ a b,a≤b→b < n→nth ls a≤nth ls b) :
  Calls Try.prog 97 #[.slice (some ⟨g,0,none⟩) n c,.int .i64 y,.func (.func 98) #[] #[]] w fun e w'=>e= .returned (.tuple #[.int .i64 ((ls.countP (fun x=>decide (x≤y)):Nat):Int),.bool false])∧Below w.heap.size w w':=by
 have eg: ∀ args w,(callFunc 98 args).run Try.prog w= .ok (.enter 98 args) w:=enters_of Try.func98 TK rfl
 have HC:=Am hc
 have HS:=Am hs
 have HG:=Am hg
 have HN:=Am hn
 have HB0:=Am (Below.refl w.heap.size w)
 clear hc hs hg hn
 obtain ⟨cnt,hcnt⟩: ∃ m,m=ls.countP (fun x=>decide (x≤y)):=⟨_,rfl⟩
 rw [← hcnt]
 have HCN:=Am hcnt
 clear hcnt
 go_enter Try.func97,Try.ntmps97
 go_wp2
 go_loopg [9,10] n (fun kx s9 s10 wr=> ∃ lo hi:Nat,s9= .int .i64 lo∧s10= .int .i64 hi∧lo≤hi∧hi≤n∧hi - lo≤kx∧Aside0 (Below w.heap.size w wr)∧Aside0 ((∀ t,t < lo→nth ls t≤y)∧(∀ t,hi≤t→t < n→y < nth ls t)))
 case atStart=>exact ⟨0,n,rfl,rfl,Nat.zero_le _,Nat.le_refl _,by omega,HB0,⟨fun t ht=>absurd ht (Nat.not_lt_zero _),fun t h1 h2=>by omega⟩⟩
 case round =>
  clear HB0
  obtain ⟨lo,hi,rfl,rfl,hlh,hin,hk,HB,I⟩:=hrel
  by_cases hlt:lo < hi
  ·
   have cm:wr.cell? ⟨g,(lo+hi) / 2,none⟩=some (.int .i64 (nth ls ((lo+hi) / 2))):=(HB.out.cell (p:=⟨g,(lo+hi) / 2,none⟩) HG.out).trans (HC.out _ (by omega))
   generalize hv:nth ls ((lo+hi) / 2)=v at cm
   have V:=Am hv
   clear hv
   by_cases hvy:v≤y
   ·
    have HV:=Am hvy
    clear hvy
    go_wp2_with (go_at_fn 98;refine (cols_Of.less_le _ _ _ HV.out).mono ?_;rintro e w2 ⟨rfl,hb2⟩;replace HB:=Am (below_step HB.out hb2);clear hb2)
    go_roundg (hi - ((lo+hi) / 2+1))
    case measure=>omega
    case rel =>
     refine ⟨(lo+hi) / 2+1,hi,by rw [show ((lo:Int)+(hi:Int)) / 2+1=(((lo+hi) / 2+1:Nat):Int) by omega],rfl,by omega,hin,Nat.le_refl _,HB,⟨fun t ht=>?_,I.out.2⟩⟩
     have:=HS.out t ((lo+hi) / 2) (by omega) (by omega)
     rw [V.out] at this
     have:=HV.out
     omega
   ·
    have HV:=Am hvy
    clear hvy
    go_wp2_with (go_at_fn 98;refine (cols_Of.less_gt _ _ _ HV.out).mono ?_;rintro e w2 ⟨rfl,hb2⟩;replace HB:=Am (below_step HB.out hb2);clear hb2)
    go_roundg ((lo+hi) / 2 - lo)
    case measure=>omega
    case rel =>
     refine ⟨lo,(lo+hi) / 2,rfl,by rw [show ((lo:Int)+(hi:Int)) / 2=(((lo+hi) / 2:Nat):Int) by omega],by omega,by omega,Nat.le_refl _,HB,⟨I.out.1,fun t ht htn=>?_⟩⟩
     have:=HS.out ((lo+hi) / 2) t ht htn
     rw [V.out] at this
     have:=HV.out
     omega
  ·
   obtain rfl:hi=lo:=by omega
   have ecnt:cnt=hi:=by
    rw [HCN.out]
    exact count_split ls (fun x=>decide (x≤y)) hi (by rw [← HN.out];exact hin) (fun t ht=>decide_eq_true (I.out.1 t ht)) (fun t h1 h2=>decide_eq_false (by have:=I.out.2 t h1 (by rw [HN.out];exact h2);omega))
   clear HCN
   subst ecnt
   by_cases hcn:cnt < n
   ·
    have cm:wr.cell? ⟨g,cnt,none⟩=some (.int .i64 (nth ls cnt)):=(HB.out.cell (p:=⟨g,cnt,none⟩) HG.out).trans (HC.out _ hcn)
    have HV:=Am (show ¬ nth ls cnt≤y by have:=I.out.2 cnt (Nat.le_refl _) hcn;omega)
    generalize nth ls cnt=v at cm HV
    go_wp2_with (go_at_fn 98;refine (cols_Of.less_gt _ _ _ HV.out).mono ?_;rintro e w2 ⟨rfl,hb2⟩;replace HB:=Am (below_step HB.out hb2);clear hb2)
    go_ret2
    exact ⟨rfl,HB.out⟩
   ·
    go_wp2
    go_ret2
    exact ⟨rfl,HB.out⟩
theorem cols_Of.narrow_build (W:World):(Instr.build 105 ((nums .i64 cols_Of.narrowL).zipIdx.map fun (x,i)=>(i,x)).toArray).run Try.prog W= .ok (.agg (nums .i64 cols_Of.narrowL).toArray) W:=by rfl
theorem cols_Of.narrow_size:(nums .i64 cols_Of.narrowL).toArray.size=90:=by decide
set_option maxHeartbeats 4000000 in
theorem cols_Of.narrow_calls (w:World):Calls Try.prog 69 #[] w fun e w'=>e= .returned (.agg (nums .i64 cols_Of.narrowL).toArray)∧Below w.heap.size w w':=by
 go_enter Try.func69,Try.ntmps69
 go_wp2_with (first|((with_reducible refine gate_dst (N:=0) rfl ?_);refine alloc_event rfl 105 rfl 90 TK ?_;intro g w1 cs hcs hg hb hbel hsz;have HG:=Am (show w.heap.size≤g by omega);have HB:=Am hbel;have HH:=Am hb;have HCS:=Am hcs;clear hcs hg hb hbel hsz)|((with_reducible refine gate_dst (N:=1) rfl ?_);refine build_event rfl (N:=1) rfl 105 (nums .i64 cols_Of.narrowL) ?ho (.agg (nums .i64 cols_Of.narrowL).toArray) (cols_Of.narrow_build _) ?_;(case ho=>kernel_rfl);generalize hV:Value.agg (nums .i64 cols_Of.narrowL).toArray=V;have HV:=Am hV;clear hV)|((with_reducible refine gate_store (t:=105) (p:=0) rfl ?_);refine block_store rfl rfl 105 (.tmp 0) (.tmp 1) rfl rfl V rfl HH.out (by rw [HCS.out,← HV.out];exact cols_Of.narrow_size) (by rw [HCS.out];kernel_rfl) (by rw [← HV.out];exact nums_one _) ?_;intro w2 hb2 hk2 hs2 hB2;have HB2:=Am (hB2 _ _ HB.out HG.out);have HH2:=Am (show w2.heap[g]?=some (.cells (nums .i64 cols_Of.narrowL).toArray 105 (0,0)) by rw [← HV.out] at hb2;exact hb2);clear hb2 hk2 hs2 hB2 HB HH))
 exact bodyPost_ret (v:=(.agg (nums .i64 cols_Of.narrowL).toArray)) (results_c1 rfl _ _ _ _ _ _ _ rfl HH2.out Try.underlying105 rfl (by rw [cols_Of.narrow_size];kernel_rfl)) rfl ⟨rfl,HB2.out⟩
theorem cols_Of.wide_build (W:World):(Instr.build 107 ((nums .i64 cols_Of.wideL).zipIdx.map fun (x,i)=>(i,x)).toArray).run Try.prog W= .ok (.agg (nums .i64 cols_Of.wideL).toArray) W:=by rfl
theorem cols_Of.wide_size:(nums .i64 cols_Of.wideL).toArray.size=184:=by decide
set_option maxHeartbeats 4000000 in
theorem cols_Of.wide_calls (w:World):Calls Try.prog 70 #[] w fun e w'=>e= .returned (.agg (nums .i64 cols_Of.wideL).toArray)∧Below w.heap.size w w':=by
 go_enter Try.func70,Try.ntmps70
 go_wp2_with (first|((with_reducible refine gate_dst (N:=0) rfl ?_);refine alloc_event rfl 107 rfl 184 TK ?_;intro g w1 cs hcs hg hb hbel hsz;have HG:=Am (show w.heap.size≤g by omega);have HB:=Am hbel;have HH:=Am hb;have HCS:=Am hcs;clear hcs hg hb hbel hsz)|((with_reducible refine gate_dst (N:=1) rfl ?_);refine build_event rfl (N:=1) rfl 107 (nums .i64 cols_Of.wideL) ?ho (.agg (nums .i64 cols_Of.wideL).toArray) (cols_Of.wide_build _) ?_;(case ho=>kernel_rfl);generalize hV:Value.agg (nums .i64 cols_Of.wideL).toArray=V;have HV:=Am hV;clear hV)|((with_reducible refine gate_store (t:=107) (p:=0) rfl ?_);refine block_store rfl rfl 107 (.tmp 0) (.tmp 1) rfl rfl V rfl HH.out (by rw [HCS.out,← HV.out];exact cols_Of.wide_size) (by rw [HCS.out];kernel_rfl) (by rw [← HV.out];exact nums_one _) ?_;intro w2 hb2 hk2 hs2 hB2;have HB2:=Am (hB2 _ _ HB.out HG.out);have HH2:=Am (show w2.heap[g]?=some (.cells (nums .i64 cols_Of.wideL).toArray 107 (0,0)) by rw [← HV.out] at hb2;exact hb2);clear hb2 hk2 hs2 hB2 HB HH))
 exact bodyPost_ret (v:=(.agg (nums .i64 cols_Of.wideL).toArray)) (results_c1 rfl _ _ _ _ _ _ _ rfl HH2.out Try.underlying107 rfl (by rw [cols_Of.wide_size];kernel_rfl)) rfl ⟨rfl,HB2.out⟩
set_option maxHeartbeats 1000000 in
theorem cols_Of.within_calls (ls:List Int) (g c n:Nat) (y:Int) (w:World) (hn:n=ls.length) (hg:g < w.heap.size) (hc: ∀ j,j < n→w.cell? ⟨g,j,none⟩=some (.int .i64 (nth ls j))) (hlen:n < 1000000) (hs: ∀ a b,a≤b→b < n→nth ls a≤nth ls b) :
  Calls Try.prog 71 #[.slice (some ⟨g,0,none⟩) n c,.int .i64 y] w fun e w'=>e= .returned (.bool (cols_Of.oddIn ls y))∧Below w.heap.size w w':=by
 have hcall:=fun W (hb:Below w.heap.size w W)=>cols_Of.search ls g c n y W hn (Nat.lt_of_lt_of_le hg hb.size) (fun j hj=>(hb.cell (p:=⟨g,j,none⟩) hg).trans (hc j hj)) (by omega) hs
 have HCALL:=Am hcall
 have hle:ls.countP (fun x=>decide (x≤y))≤n:=by rw [hn];exact List.countP_le_length
 have HO:=Am (show cols_Of.oddIn ls y=(ls.countP (fun x=>decide (x≤y)) % 2==1) from rfl)
 clear hcall hg hc hs hn
 generalize ls.countP (fun x=>decide (x≤y))=cnt at *
 rw [HO.out]
 clear HO
 by_cases hp:(cnt:Int) % 2=1
 ·
  have hq:(cnt % 2==1)=true:=by rw [beq_iff_eq];omega
  rw [hq]
  have hpb:((cnt:Int) % 2==1)=true:=beq_iff_eq.mpr hp
  clear hp hq
  go_enter Try.func71,Try.ntmps71
  go_wp2_with (go_at_call 97;refine (HCALL.out _ (Below.refl _ _)).mono ?_;rintro e w2 ⟨rfl,hb2⟩;have HB:=Am hb2;clear hb2)
  go_ret
  exact ⟨rfl,HB.out⟩
 ·
  have hq:(cnt % 2==1)=false:=by rw [beq_eq_false_iff_ne];omega
  rw [hq]
  have hpb:((cnt:Int) % 2==1)=false:=beq_eq_false_iff_ne.mpr hp
  clear hp hq
  go_enter Try.func71,Try.ntmps71
  go_wp2_with (go_at_call 97;refine (HCALL.out _ (Below.refl _ _)).mono ?_;rintro e w2 ⟨rfl,hb2⟩;have HB:=Am hb2;clear hb2)
  go_ret
  exact ⟨rfl,HB.out⟩
theorem cols_Of.narrow_up: ∀ a b,a≤b→b < 90→nth cols_Of.narrowL a≤nth cols_Of.narrowL b:=fun a b h1 h2=>rises_nth cols_Of.narrowL (by decide +kernel) a b h1 h2
theorem cols_Of.wide_up: ∀ a b,a≤b→b < 184→nth cols_Of.wideL a≤nth cols_Of.wideL b:=fun a b h1 h2=>rises_nth cols_Of.wideL (by decide +kernel) a b h1 h2
theorem cols_Of.blk_within (l:List Int) (n t g:Nat) (y:Int) (w W:World) (hn:n=l.length) (hlen:n < 1000000) (hh:W.heap[g]?=some (.cells (nums .i64 l).toArray t (0,0))) (hs: ∀ a b,a≤b→b < n→nth l a≤nth l b) :
  Calls Try.prog 71 #[.slice (some ⟨g,0,none⟩) n n,.int .i64 y] W fun e w'=>e= .returned (.bool (cols_Of.oddIn l y))∧Below W.heap.size W w' :=
 cols_Of.within_calls l g n n y W hn (blk_lt hh) (fun j hj=>nums_cell W g t l hh j (by rw [← hn];exact hj)) hlen hs
set_option maxHeartbeats 1000000 in
theorem cols_Of.calls (a0:Int) (r:Int) (w:World) (h:cols_Of.f a0=some r) :
  Calls Try.prog 44 #[.int .i64 a0] w fun e w'=>e= .returned (.int .i64 r)∧Below w.heap.size w w':=by
 have HB:=Am (Below.refl w.heap.size w)
 have H:=Option.some.inj h
 have H':=Am H
 clear H h
 go_enter Try.func44,Try.ntmps44
 go_wp2_with (first|(go_at_call 69;refine (cols_Of.narrow_calls _).mono ?_;rintro e w2 ⟨rfl,hb2⟩;replace HB:=Am (below_step HB.out hb2);clear hb2;generalize hV1:Value.agg (nums .i64 cols_Of.narrowL).toArray=V1;have HV1:=Am hV1;clear hV1)|(go_at_call 70;refine (cols_Of.wide_calls _).mono ?_;rintro e w3 ⟨rfl,hb2⟩;replace HB:=Am (below_step HB.out hb2);clear hb2;generalize hV2:Value.agg (nums .i64 cols_Of.wideL).toArray=V2;have HV2:=Am hV2;clear hV2)|((with_reducible refine gate_dst (N:=3) rfl ?_);refine alloc_event rfl 105 rfl 90 TK ?_;intro g3 w4 cs3 hcs hg hb hbel hsz;have HG3:=Am (show w.heap.size≤g3 by rw [hg];exact HB.out.size);have n0_:=Am (below_step HB.out hbel);have HH3:=Am hb;have HCS3:=Am hcs;clear HB hcs hg hb hbel hsz;have HB:=n0_;clear n0_)|((with_reducible refine gate_dst (N:=4) rfl ?_);refine alloc_event rfl 107 rfl 184 TK ?_;intro g4 w5 cs4 hcs hg hb hbel hsz;have HG4:=Am (show w.heap.size≤g4 by rw [hg];exact HB.out.size);have HNE:=Am (show g3≠g4 by have:=blk_lt HH3.out;omega);have n0_:=Am (below_step HB.out hbel);have n1_:=Am (blk_below HH3.out hbel);have HH4:=Am hb;have HCS4:=Am hcs;clear HB HH3 hcs hg hb hbel hsz;have HB:=n0_;have HH3:=n1_;clear n0_ n1_)|((with_reducible refine gate_store (t:=105) (p:=3) rfl ?_);refine block_store rfl rfl 105 (.tmp 3) (.tmp 5) rfl rfl V1 rfl HH3.out (by rw [HCS3.out,← HV1.out];exact cols_Of.narrow_size) (by rw [HCS3.out];kernel_rfl) (by rw [← HV1.out];exact nums_one _) ?_;intro w6 hb2 hk2 hs2 hB2;replace HH3:=Am (show w6.heap[g3]?=some (.cells (nums .i64 cols_Of.narrowL).toArray 105 (0,0)) by rw [← HV1.out] at hb2;exact hb2);replace HH4:=Am ((hk2 g4 (Ne.symm HNE.out)).trans HH4.out);replace HB:=Am (hB2 _ _ HB.out HG3.out);clear hb2 hk2 hs2 hB2)|((with_reducible refine gate_store (t:=107) (p:=4) rfl ?_);refine block_store rfl rfl 107 (.tmp 4) (.tmp 6) rfl rfl V2 rfl HH4.out (by rw [HCS4.out,← HV2.out];exact cols_Of.wide_size) (by rw [HCS4.out];kernel_rfl) (by rw [← HV2.out];exact nums_one _) ?_;intro w7 hb2 hk2 hs2 hB2;replace HH4:=Am (show w7.heap[g4]?=some (.cells (nums .i64 cols_Of.wideL).toArray 107 (0,0)) by rw [← HV2.out] at hb2;exact hb2);replace HH3:=Am ((hk2 g3 HNE.out).trans HH3.out);replace HB:=Am (hB2 _ _ HB.out HG4.out);clear hb2 hk2 hs2 hB2))
 refine (cols_Of.blk_within cols_Of.narrowL 90 105 g3 a0 w _ rfl (by omega) HH3.out cols_Of.narrow_up).mono ?_
 rintro e w8 ⟨rfl,hb8⟩
 replace HH4:=Am (blk_below HH4.out hb8)
 replace HB:=Am (below_step HB.out hb8)
 clear HH3 hb8
 generalize hb1:cols_Of.oddIn cols_Of.narrowL a0=b1
 rw [hb1] at H'
 clear hb1
 cases b1 with
 | true =>
  obtain rfl:(0:Int)=r:=H'.out
  clear H'
  go_wp2
  go_ret
  exact ⟨rfl,HB.out⟩
 | false =>
  go_wp2_with fail
  refine (cols_Of.blk_within cols_Of.wideL 184 107 g4 a0 w _ rfl (by omega) HH4.out cols_Of.wide_up).mono ?_
  rintro e w9 ⟨rfl,hb9⟩
  replace HB:=Am (below_step HB.out hb9)
  clear hb9
  generalize hb2:cols_Of.oddIn cols_Of.wideL a0=b2
  rw [hb2] at H'
  clear hb2
  cases b2 with
  | true =>
   obtain rfl:(2:Int)=r:=H'.out
   clear H'
   go_wp2
   go_ret
   exact ⟨rfl,HB.out⟩
  | false =>
   obtain rfl:(1:Int)=r:=H'.out
   clear H'
   go_wp2
   go_ret
   exact ⟨rfl,HB.out⟩
end
def cmp_isNaN_int.f (a0:Int):Option (Bool):=some (a0 !=a0)
set_option maxHeartbeats 8000000 in
theorem cmp_isNaN_int.calls (a0:Int) (r:Bool) (w:World) (h:cmp_isNaN_int.f a0=some r) :
  Calls Try.prog 107 #[.int .i64 a0] w fun e w'=>e= .returned (.bool r)∧Drawn0 w w':=by
 have H:(some (a0 !=a0))=some r:=h
 clear h
 obtain rfl:=Option.some.inj H
 go_enter Try.func107,Try.ntmps107
 go_wp2
 go_ret
 exact ⟨by first|rfl|(simp;done)|(simp [*];done),by repeat (first|exact Drawn0.refl _|apply Drawn0.step)⟩
def cmp_Less_int.f (a0:Int) (a1:Int):Option (Bool):=(cmp_isNaN_int.f a0).bind fun t105=>(if t105=true then ((cmp_isNaN_int.f a1).bind fun t106=>(if t106=true then (some (decide (a0 < a1))) else (some true))) else (some (decide (a0 < a1))))
set_option maxHeartbeats 8000000 in
theorem cmp_Less_int.calls (a0:Int) (a1:Int) (r:Bool) (w:World) (h:cmp_Less_int.f a0 a1=some r) :
  Calls Try.prog 99 #[.int .i64 a0,.int .i64 a1] w fun e w'=>e= .returned (.bool r)∧Drawn0 w w':=by
 have H:((cmp_isNaN_int.f a0).bind fun t105=>(if t105=true then ((cmp_isNaN_int.f a1).bind fun t106=>(if t106=true then (some (decide (a0 < a1))) else (some true))) else (some (decide (a0 < a1)))))=some r:=h
 clear h
 obtain ⟨t105,A30,H⟩:=Option.bind_eq_some_iff.mp H
 try dsimp only at H
 have A3:=Am A30
 clear A30
 by_cases c4:t105=true
 rotate_left
 ·
  replace c4:=Bool.eq_false_iff.mpr c4
  subst c4
  rw [if_neg (show ¬ (false=true) by decide)] at H
  obtain rfl:=Option.some.inj H
  go_enter Try.func99,Try.ntmps99
  go_wp2_with (first|((with_reducible refine gate_callee (f:=107) rfl ?_);refine goesL_ (some 6) rfl rfl Try.func107 TK rfl #[.int .i64 a0] rfl TM ?_;(with_reducible refine (cmp_isNaN_int.calls a0 false _ A3.out).mono ?_);rintro e w' ⟨rfl,⟨nd,rfl⟩⟩;refine ⟨_,rfl,?_⟩))
  go_ret
  exact ⟨by first|rfl|(simp;done)|(simp [*];done),by repeat (first|exact Drawn0.refl _|apply Drawn0.step)⟩
 subst c4
 rw [if_pos rfl] at H
 obtain ⟨t106,A50,H⟩:=Option.bind_eq_some_iff.mp H
 try dsimp only at H
 have A5:=Am A50
 clear A50
 by_cases c6:t106=true
 ·
  subst c6
  rw [if_pos rfl] at H
  obtain rfl:=Option.some.inj H
  go_enter Try.func99,Try.ntmps99
  go_wp2_with (first|((with_reducible refine gate_callee (f:=107) rfl ?_);refine goesL_ (some 6) rfl rfl Try.func107 TK rfl #[.int .i64 a0] rfl TM ?_;(with_reducible refine (cmp_isNaN_int.calls a0 true _ A3.out).mono ?_);rintro e w' ⟨rfl,⟨nd,rfl⟩⟩;refine ⟨_,rfl,?_⟩)|(go_at_call 107;(with_reducible refine (cmp_isNaN_int.calls a1 true _ A5.out).mono ?_);rintro e w' ⟨rfl,⟨nd,rfl⟩⟩))
  go_ret
  exact ⟨by first|rfl|(simp;done)|(simp [*];done),by repeat (first|exact Drawn0.refl _|apply Drawn0.step)⟩
 replace c6:=Bool.eq_false_iff.mpr c6
 subst c6
 rw [if_neg (show ¬ (false=true) by decide)] at H
 obtain rfl:=Option.some.inj H
 go_enter Try.func99,Try.ntmps99
 go_wp2_with (first|((with_reducible refine gate_callee (f:=107) rfl ?_);refine goesL_ (some 6) rfl rfl Try.func107 TK rfl #[.int .i64 a0] rfl TM ?_;(with_reducible refine (cmp_isNaN_int.calls a0 true _ A3.out).mono ?_);rintro e w' ⟨rfl,⟨nd,rfl⟩⟩;refine ⟨_,rfl,?_⟩)|(go_at_call 107;(with_reducible refine (cmp_isNaN_int.calls a1 false _ A5.out).mono ?_);rintro e w' ⟨rfl,⟨nd,rfl⟩⟩))
 go_ret
 exact ⟨by first|rfl|(simp;done)|(simp [*];done),by repeat (first|exact Drawn0.refl _|apply Drawn0.step)⟩
def slices_isNaN_int.f (a0:Int):Option (Bool):=some (a0 !=a0)
set_option maxHeartbeats 8000000 in
theorem slices_isNaN_int.calls (a0:Int) (r:Bool) (w:World) (h:slices_isNaN_int.f a0=some r) :
  Calls Try.prog 100 #[.int .i64 a0] w fun e w'=>e= .returned (.bool r)∧Drawn0 w w':=by
 have H:(some (a0 !=a0))=some r:=h
 clear h
 obtain rfl:=Option.some.inj H
 go_enter Try.func100,Try.ntmps100
 go_wp2
 go_ret
 exact ⟨by first|rfl|(simp;done)|(simp [*];done),by repeat (first|exact Drawn0.refl _|apply Drawn0.step)⟩
def slices_BinarySearch_int_int.l0:Nat→List Int→Int→Int→Int→Int→Option (Int × Bool)
 | 0,_,_,_,_,_=>none
 | k+1,x0,x1,x6,x7,x8=>if x7 < x8 then (if 0≤(wrap64 ((IntKind.u64.wrap (wrap64 (x7+x8))) / 2)) then (if (wrap64 ((IntKind.u64.wrap (wrap64 (x7+x8))) / 2)) < (x0.length:Int) then ((cmp_Less_int.f (rd x0 (wrap64 ((IntKind.u64.wrap (wrap64 (x7+x8))) / 2))) x1).bind fun t108=>(if t108=true then (slices_BinarySearch_int_int.l0 k x0 x1 x6 (wrap64 ((wrap64 ((IntKind.u64.wrap (wrap64 (x7+x8))) / 2))+1)) x8) else (slices_BinarySearch_int_int.l0 k x0 x1 x6 x7 (wrap64 ((IntKind.u64.wrap (wrap64 (x7+x8))) / 2))))) else (none)) else (none)) else (if x7 < x6 then (if 0≤x7 then (if x7 < (x0.length:Int) then (if (rd x0 x7)=x1 then (some (x7,true)) else ((slices_isNaN_int.f (rd x0 x7)).bind fun t111=>(if t111=true then ((slices_isNaN_int.f x1).bind fun t112=>(some (x7,t112))) else (some (x7,false))))) else (none)) else (none)) else (some (x7,false)))
def slices_BinarySearch_int_int.f (k:Nat) (l0:List Int) (a1:Int):Option (Int × Bool):=slices_BinarySearch_int_int.l0 k l0 a1 (l0.length:Int) 0 (l0.length:Int)
theorem slices_BinarySearch_int_int.mono_l: ∀ k,(∀ y0 y1 y2 y3 y4,LeO (slices_BinarySearch_int_int.l0 k y0 y1 y2 y3 y4) (slices_BinarySearch_int_int.l0 (k+1) y0 y1 y2 y3 y4))
 | 0=>fun _ _ _ _ _ r h=>by simp [slices_BinarySearch_int_int.l0] at h
 | k+1=>by
  have ih0:=slices_BinarySearch_int_int.mono_l k
  ·
   intros
   unfold slices_BinarySearch_int_int.l0
   exact TL
theorem slices_BinarySearch_int_int.mono: ∀ a0 a1 k,LeO (slices_BinarySearch_int_int.f k a0 a1) (slices_BinarySearch_int_int.f (k+1) a0 a1):=by
 intro a0 a1 k
 have ih0:=slices_BinarySearch_int_int.mono_l k
 unfold slices_BinarySearch_int_int.f
 repeat' first
   | (with_reducible exact ih0 _ _ _ _ _)
   | (with_reducible exact LeO.refl _)
   | (with_reducible exact LeO.none _)
   | (with_reducible refine LeO.ite ?_ ?_)
   | (with_reducible refine LeO.bind ?_ (fun _=>?_))
set_option maxHeartbeats 8000000 in
theorem slices_BinarySearch_int_int.calls (k:Nat) (A0:Option Addr) (c0:Nat) (l0:List Int) (a1:Int) (r1:Int) (r2:Bool) (w:World) (hr0:Kd.C (Kd.int .i64) w A0 l0.length l0) (hc0:l0.length≤c0) (h:slices_BinarySearch_int_int.f k l0 a1=some (r1,r2)) :
  Calls Try.prog 73 #[.slice A0 l0.length c0,.int .i64 a1] w fun e w'=>e= .returned (.tuple #[.int .i64 r1,.bool r2])∧Drawn0 w w':=by
 have HR0:=Am hr0
 have HC0:=Am hc0
 clear hr0 hc0
 have H:(slices_BinarySearch_int_int.l0 k l0 a1 (l0.length:Int) 0 (l0.length:Int))=some (r1,r2):=h
 clear h
 have H':=Am H
 clear H
 go_enter Try.func73,Try.ntmps73
 go_wp2
 go_loopg [7,8] k (fun kq v7 v8 w'=> ∃ (x7_1:Int) (x8_1:Int),v7= .int .i64 x7_1∧v8= .int .i64 x8_1∧Aside0 (slices_BinarySearch_int_int.l0 kq l0 a1 (l0.length:Int) x7_1 x8_1=some (r1,r2))∧Aside0 (kq≤k)∧Drawn0 w w')
 case atStart=>exact ⟨(0),((l0.length:Int)),TS,TS,H',⟨Nat.le_refl _⟩,by repeat (first|exact Drawn0.refl _|apply Drawn0.step)⟩
 case round =>
  clear H'
  obtain ⟨x7_1,x8_1,rfl,rfl,HA,HK1,⟨m1,rfl⟩⟩:=hrel
  cases gk with
  | zero=>exact absurd HA.out (by simp [slices_BinarySearch_int_int.l0])
  | succ k1 =>
   have H:=HA.out
   clear HA
   simp only [slices_BinarySearch_int_int.l0] at H
   by_cases c3:x7_1 < x8_1
   ·
    rw [if_pos c3] at H
    have c3b0:decide (x7_1 < x8_1)=true:=decide_eq_true c3
    clear c3
    obtain ⟨ji4,hji4⟩: ∃ j_:Int,(wrap64 ((IntKind.u64.wrap (wrap64 (x7_1+x8_1))) / 2))=j_:=⟨_,rfl⟩
    replace H:(if 0≤(ji4) then (if (ji4) < (l0.length:Int) then ((cmp_Less_int.f (rd l0 (ji4)) a1).bind fun t108=>(if t108=true then (slices_BinarySearch_int_int.l0 k1 l0 a1 (l0.length:Int) (wrap64 ((ji4)+1)) x8_1) else (slices_BinarySearch_int_int.l0 k1 l0 a1 (l0.length:Int) x7_1 ji4))) else (none)) else (none))=some (r1,r2):=by first|(rw [hji4] at H;exact H)|(simp only [hji4] at H ⊢;exact H)
    have hji4w:(IntKind.i64.wrap ((IntKind.u64.wrap (wrap64 (x7_1+x8_1))) / 2))=ji4:=(i64_w _).trans hji4
    obtain ⟨c5,H⟩:=ifS H
    have c5b0:decide (0≤(ji4))=true:=decide_eq_true c5
    clear c5
    obtain ⟨c6,H⟩:=ifS H
    have c6b0:decide ((ji4) < (l0.length:Int))=true:=decide_eq_true c6
    clear c6
    obtain ⟨t108,A70,H⟩:=Option.bind_eq_some_iff.mp H
    try dsimp only at H
    have A7:=Am A70
    clear A70
    by_cases c8:t108=true
    ·
     subst c8
     rw [if_pos rfl] at H
     have H':=Am H
     clear H
     have p107:0≤((ji4):Int):=tD
     have q107:(ji4) < (l0.length:Int):=tD
     obtain ⟨ad107,e107,hx107_0⟩:=Kd.at_int HR0.out (ji4) p107 q107
     cases e107
     replace p107:=eq_true p107
     replace q107:=eq_true q107
     go_wp2_with (first|((with_reducible refine gate_callee (f:=99) rfl ?_);refine goesL_ (some 27) rfl rfl Try.func99 TK rfl #[.int .i64 (rd l0 (ji4)),.int .i64 a1] rfl (by (try simp only [List.map_toArray,List.map_cons,List.map_nil]);first|done|(simp only [hji4];rfl)|rfl|(simp only [List.length_drop,List.length_take];rfl)) ?_;(with_reducible refine (cmp_Less_int.calls (rd l0 (ji4)) a1 true _ A7.out).mono ?_);rintro e w' ⟨rfl,⟨nd,rfl⟩⟩;refine ⟨_,rfl,?_⟩))
     go_roundg k1
     case measure=>have:=HK1.out;omega
     case rel=>exact ⟨(wrap64 ((ji4)+1)),(x8_1),(by first|rfl|(simp;done)|(simp only [← hji4] <;> (first|rfl|simp))|(simp [*];done)),TS,H',⟨by have:=HK1.out;omega⟩,by repeat (first|exact Drawn0.refl _|apply Drawn0.step)⟩
    replace c8:=Bool.eq_false_iff.mpr c8
    subst c8
    rw [if_neg (show ¬ (false=true) by decide)] at H
    have H':=Am H
    clear H
    have p107:0≤((ji4):Int):=tD
    have q107:(ji4) < (l0.length:Int):=tD
    obtain ⟨ad107,e107,hx107_0⟩:=Kd.at_int HR0.out (ji4) p107 q107
    cases e107
    replace p107:=eq_true p107
    replace q107:=eq_true q107
    go_wp2_with (first|((with_reducible refine gate_callee (f:=99) rfl ?_);refine goesL_ (some 27) rfl rfl Try.func99 TK rfl #[.int .i64 (rd l0 (ji4)),.int .i64 a1] rfl (by (try simp only [List.map_toArray,List.map_cons,List.map_nil]);first|done|(simp only [hji4];rfl)|rfl|(simp only [List.length_drop,List.length_take];rfl)) ?_;(with_reducible refine (cmp_Less_int.calls (rd l0 (ji4)) a1 false _ A7.out).mono ?_);rintro e w' ⟨rfl,⟨nd,rfl⟩⟩;refine ⟨_,rfl,?_⟩))
    go_roundg k1
    case measure=>have:=HK1.out;omega
    case rel=>exact ⟨(x7_1),(ji4),TS,(by first|rfl|(simp;done)|(simp only [← hji4] <;> (first|rfl|simp))|(simp [*];done)),H',⟨by have:=HK1.out;omega⟩,by repeat (first|exact Drawn0.refl _|apply Drawn0.step)⟩
   rw [if_neg c3] at H
   have c3b0:decide (x7_1 < x8_1)=false:=decide_eq_false c3
   clear c3
   by_cases c9:x7_1 < (l0.length:Int)
   rotate_left
   ·
    rw [if_neg c9] at H
    have c9b0:decide (x7_1 < (l0.length:Int))=false:=decide_eq_false c9
    clear c9
    simp only [Option.some.injEq,Prod.mk.injEq] at H
    obtain ⟨rfl,rfl⟩:=H
    go_wp2
    go_ret2
    exact ⟨by first|rfl|(simp;done)|(simp [*];done),by repeat (first|exact Drawn0.refl _|apply Drawn0.step)⟩
   rw [if_pos c9] at H
   have c9b0:decide (x7_1 < (l0.length:Int))=true:=decide_eq_true c9
   clear c9
   obtain ⟨c10,H⟩:=ifS H
   have c10b0:decide (0≤x7_1)=true:=decide_eq_true c10
   clear c10
   obtain ⟨c11,H⟩:=ifS H
   have c11b0:decide (x7_1 < (l0.length:Int))=true:=decide_eq_true c11
   clear c11
   by_cases c12:(rd l0 x7_1)=a1
   ·
    rw [if_pos c12] at H
    have c12b0:((rd l0 x7_1)==a1)=true:=beq_iff_eq.mpr c12
    have c12b1:((rd l0 x7_1) !=a1)=false:=bne_eq_false_iff_eq.mpr c12
    clear c12
    simp only [Option.some.injEq,Prod.mk.injEq] at H
    obtain ⟨rfl,rfl⟩:=H
    have p109:0≤(x7_1:Int):=tD
    have q109:x7_1 < (l0.length:Int):=tD
    obtain ⟨ad109,e109,hx109_0⟩:=Kd.at_int HR0.out x7_1 p109 q109
    cases e109
    replace p109:=eq_true p109
    replace q109:=eq_true q109
    go_wp2
    go_ret2
    exact ⟨by first|rfl|(simp;done)|(simp [*];done),by repeat (first|exact Drawn0.refl _|apply Drawn0.step)⟩
   rw [if_neg c12] at H
   have c12b0:((rd l0 x7_1)==a1)=false:=beq_eq_false_iff_ne.mpr c12
   have c12b1:((rd l0 x7_1) !=a1)=true:=bne_iff_ne.mpr c12
   obtain ⟨t111,A130,H⟩:=Option.bind_eq_some_iff.mp H
   try dsimp only at H
   have A13:=Am A130
   clear A130
   by_cases c14:t111=true
   rotate_left
   ·
    replace c14:=Bool.eq_false_iff.mpr c14
    subst c14
    rw [if_neg (show ¬ (false=true) by decide)] at H
    simp only [Option.some.injEq,Prod.mk.injEq] at H
    obtain ⟨rfl,rfl⟩:=H
    have p109:0≤(x7_1:Int):=tD
    have q109:x7_1 < (l0.length:Int):=tD
    obtain ⟨ad109,e109,hx109_0⟩:=Kd.at_int HR0.out x7_1 p109 q109
    cases e109
    replace p109:=eq_true p109
    replace q109:=eq_true q109
    have p110:0≤(x7_1:Int):=tD
    have q110:x7_1 < (l0.length:Int):=tD
    obtain ⟨ad110,e110,hx110_0⟩:=Kd.at_int HR0.out x7_1 p110 q110
    obtain rfl:ad109=ad110:=(by injection e110)
    replace p110:=eq_true p110
    replace q110:=eq_true q110
    go_wp2_with (first|(go_at_call 100;(with_reducible refine (slices_isNaN_int.calls (rd l0 x7_1) false _ A13.out).mono ?_);rintro e w' ⟨rfl,⟨nd,rfl⟩⟩))
    go_ret2
    exact ⟨by first|rfl|(simp;done)|(simp [*];done),by repeat (first|exact Drawn0.refl _|apply Drawn0.step)⟩
   subst c14
   rw [if_pos rfl] at H
   obtain ⟨t112,A150,H⟩:=Option.bind_eq_some_iff.mp H
   try dsimp only at H
   have A15:=Am A150
   clear A150
   simp only [Option.some.injEq,Prod.mk.injEq] at H
   obtain ⟨rfl,rfl⟩:=H
   have p109:0≤(x7_1:Int):=tD
   have q109:x7_1 < (l0.length:Int):=tD
   obtain ⟨ad109,e109,hx109_0⟩:=Kd.at_int HR0.out x7_1 p109 q109
   cases e109
   replace p109:=eq_true p109
   replace q109:=eq_true q109
   have p110:0≤(x7_1:Int):=tD
   have q110:x7_1 < (l0.length:Int):=tD
   obtain ⟨ad110,e110,hx110_0⟩:=Kd.at_int HR0.out x7_1 p110 q110
   obtain rfl:ad109=ad110:=(by injection e110)
   replace p110:=eq_true p110
   replace q110:=eq_true q110
   go_wp2_with (first|(go_at_call 100;(with_reducible refine (slices_isNaN_int.calls (rd l0 x7_1) true _ A13.out).mono ?_);rintro e w' ⟨rfl,⟨nd,rfl⟩⟩)|(go_at_call 100;(with_reducible refine (slices_isNaN_int.calls a1 t112 _ A15.out).mono ?_);rintro e w' ⟨rfl,⟨nd,rfl⟩⟩))
   go_ret2
   exact ⟨by first|rfl|(simp;done)|(simp [*];done),by repeat (first|exact Drawn0.refl _|apply Drawn0.step)⟩
def gcb_Pict.L:List Int:=[169,170,174,175,8252,8253,8265,8266,8482,8483,8505,8506,8596,8602,8617,8619,8986,8988,9000,9001,9167,9168,9193,9204,9208,9211,9410,9411,9642,9644,9654,9655,9664,9665,9723,9727,9728,9734,9735,9747,9748,9862,9872,9990,9992,10003,10004,10005,10006,10007,10013,10014,10017,10018,10024,10025,10035,10037,10052,10053,10055,10056,10060,10061,10062,10063,10067,10070,10071,10072,10083,10088,10133,10136,10145,10146,10160,10161,10175,10176,10548,10550,11013,11016,11035,11037,11088,11089,11093,11094,12336,12337,12349,12350,12951,12952,12953,12954,126976,127232,127245,127248,127279,127280,127340,127346,127358,127360,127374,127375,127377,127387,127405,127462,127489,127504,127514,127515,127535,127536,127538,127547,127548,127552,127561,127995,128000,128318,128326,128592,128640,128768,128884,128896,128981,129024,129036,129040,129096,129104,129114,129120,129160,129168,129198,129280,129292,129339,129340,129350,129351,129792,130048,131070]
def gcb_Pict.oddIn (l:List Int) (c:Int):Bool:=l.countP (fun x=>decide (x≤c)) % 2==1
def gcb_Pict.f (a0:Int):Option Bool:=some (gcb_Pict.oddIn gcb_Pict.L a0)
section
open Go.Proofs.YteoaegigjlhamaaH
theorem gcb_Pict.mid (lo hi:Nat) (h:lo+hi < 2000000):wrap64 ((IntKind.u64.wrap (wrap64 ((lo:Int)+(hi:Int)))) / 2)=(((lo+hi) / 2:Nat):Int):=by
 have e1:wrap64 ((lo:Int)+(hi:Int))=((lo+hi:Nat):Int):=by unfold wrap64;omega
 rw [e1,show IntKind.u64.wrap ((lo+hi:Nat):Int)=((lo+hi:Nat):Int) from by rw [IntKind.wrap_u64];omega]
 unfold wrap64
 omega
theorem gcb_Pict.bs (l:List Int) (hl:l.length < 1000000) (hs: ∀ a b,a < b→b < l.length→nth l a < nth l b) (y:Int): ∀ (d lo hi k:Nat),hi - lo≤d→lo≤hi→hi≤l.length→(∀ t,t < lo→nth l t < y)→(∀ t,hi≤t→t < l.length→y≤nth l t)→d < k →
  ∃ (q:Nat) (b:Bool),slices_BinarySearch_int_int.l0 k l y (l.length:Int) (lo:Int) (hi:Int)=some ((q:Int),b)∧(if b=true then q+1 else q)=l.countP (fun x=>decide (x≤y))∧q≤l.length:=by
 intro d
 induction d with
 | zero =>
  intro lo hi k hd hlh hhl h1 h2 hk
  obtain ⟨k,rfl⟩: ∃ m,k=m+1:=⟨k - 1,by omega⟩
  obtain rfl:hi=lo:=by omega
  simp only [slices_BinarySearch_int_int.l0]
  rw [if_neg (by omega)]
  by_cases hn:hi < l.length
  ·
   have hrd:rd l (hi:Int)=nth l hi:=rfl
   rw [if_pos (by omega),if_pos (by omega),if_pos (by omega),hrd]
   by_cases he:nth l hi=y
   ·
    refine ⟨hi,true,by rw [if_pos he],?_,by omega⟩
    rw [if_pos rfl]
    refine (count_split l _ (hi+1) (by omega) (fun t ht=>decide_eq_true ?_) (fun t ht1 ht2=>decide_eq_false ?_)).symm
    ·
     by_cases e:t=hi
     ·
      subst e;omega
     ·
      have:=h1 t (by omega);omega
    ·
     have:=hs hi t (by omega) ht2
     omega
   ·
    refine ⟨hi,false,?_,?_,by omega⟩
    ·
     rw [if_neg he]
     simp [slices_isNaN_int.f]
    ·
     have h3:=h2 hi (Nat.le_refl _) hn
     rw [if_neg (by decide)]
     refine (count_split l _ hi (by omega) (fun t ht=>decide_eq_true ?_) (fun t ht1 ht2=>decide_eq_false ?_)).symm
     ·
      have:=h1 t ht;omega
     ·
      by_cases e:t=hi
      ·
       subst e;omega
      ·
       have:=hs hi t (by omega) ht2
       omega
  ·
   refine ⟨hi,false,by rw [if_neg (by omega)],?_,by omega⟩
   rw [if_neg (by decide)]
   refine (count_split l _ hi (by omega) (fun t ht=>decide_eq_true ?_) (fun t ht1 ht2=>by omega)).symm
   have:=h1 t ht;omega
 | succ d ih =>
  intro lo hi k hd hlh hhl h1 h2 hk
  by_cases hlt:lo < hi
  ·
   obtain ⟨k,rfl⟩: ∃ m,k=m+1:=⟨k - 1,by omega⟩
   simp only [slices_BinarySearch_int_int.l0]
   rw [if_pos (by omega),gcb_Pict.mid lo hi (by omega),if_pos (by omega),if_pos (by omega),show rd l (((lo+hi) / 2:Nat):Int)=nth l ((lo+hi) / 2) from rfl]
   have hc:cmp_Less_int.f (nth l ((lo+hi) / 2)) y=some (decide (nth l ((lo+hi) / 2) < y)):=by simp [cmp_Less_int.f,cmp_isNaN_int.f]
   rw [hc]
   simp only [Option.bind_some]
   by_cases hv:nth l ((lo+hi) / 2) < y
   ·
    rw [if_pos (by simpa using hv),show wrap64 ((((lo+hi) / 2:Nat):Int)+1)=(((lo+hi) / 2+1:Nat):Int) from by unfold wrap64;omega]
    refine ih _ _ k (by omega) (by omega) hhl (fun t ht=>?_) h2 (by omega)
    by_cases e:t=(lo+hi) / 2
    ·
     subst e;exact hv
    ·
     have:=hs t ((lo+hi) / 2) (by omega) (by omega);omega
   ·
    rw [if_neg (by simpa using hv)]
    refine ih _ _ k (by omega) (by omega) (by omega) h1 (fun t ht1 ht2=>?_) (by omega)
    by_cases e:t=(lo+hi) / 2
    ·
     subst e;omega
    ·
     have:=hs ((lo+hi) / 2) t (by omega) ht2;omega
  ·
   obtain rfl:hi=lo:=by omega
   exact ih hi hi k (by omega) hlh hhl h1 h2 (by omega)
theorem gcb_Pict.build (W:World):(Instr.build 109 ((nums .i64 gcb_Pict.L).zipIdx.map fun (x,i)=>(i,x)).toArray).run Try.prog W= .ok (.agg (nums .i64 gcb_Pict.L).toArray) W:=by rfl
theorem gcb_Pict.size:(nums .i64 gcb_Pict.L).toArray.size=154:=by decide
set_option maxHeartbeats 4000000 in
theorem gcb_Pict.edges_calls (w:World):Calls Try.prog 72 #[] w fun e w'=>e= .returned (.agg (nums .i64 gcb_Pict.L).toArray)∧Below w.heap.size w w':=by
 go_enter Try.func72,Try.ntmps72
 go_wp2_with (first|((with_reducible refine gate_dst (N:=0) rfl ?_);refine alloc_event rfl 109 rfl 154 TK ?_;intro g w1 cs hcs hg hb hbel hsz;have HG:=Am (show w.heap.size≤g by omega);have HB:=Am hbel;have HH:=Am hb;have HCS:=Am hcs;clear hcs hg hb hbel hsz)|((with_reducible refine gate_dst (N:=1) rfl ?_);refine build_event rfl (N:=1) rfl 109 (nums .i64 gcb_Pict.L) ?ho (.agg (nums .i64 gcb_Pict.L).toArray) (gcb_Pict.build _) ?_;(case ho=>kernel_rfl);generalize hV:Value.agg (nums .i64 gcb_Pict.L).toArray=V;have HV:=Am hV;clear hV)|((with_reducible refine gate_store (t:=109) (p:=0) rfl ?_);refine block_store rfl rfl 109 (.tmp 0) (.tmp 1) rfl rfl V rfl HH.out (by rw [HCS.out,← HV.out];exact gcb_Pict.size) (by rw [HCS.out];kernel_rfl) (by rw [← HV.out];exact nums_one _) ?_;intro w2 hb2 hk2 hs2 hB2;have HB2:=Am (hB2 _ _ HB.out HG.out);have HH2:=Am (show w2.heap[g]?=some (.cells (nums .i64 gcb_Pict.L).toArray 109 (0,0)) by rw [← HV.out] at hb2;exact hb2);clear hb2 hk2 hs2 hB2 HB HH))
 exact bodyPost_ret (v:=(.agg (nums .i64 gcb_Pict.L).toArray)) (results_c1 rfl _ _ _ _ _ _ _ rfl HH2.out Try.underlying109 rfl (by rw [gcb_Pict.size];kernel_rfl)) rfl ⟨rfl,HB2.out⟩
theorem gcb_Pict.up: ∀ a b,a < b→b < gcb_Pict.L.length→nth gcb_Pict.L a < nth gcb_Pict.L b:=by
 have h: ∀ b:Fin 154,∀ a:Fin b.val,nth gcb_Pict.L a.val < nth gcb_Pict.L b.val:=by decide +kernel
 exact fun a b h1 h2=>h ⟨b,h2⟩ ⟨a,h1⟩
theorem gcb_Pict.blk_C (W:World) (g t:Nat) (l:List Int) (n:Nat) (hn:n=l.length) (hl:l.length < 1000000) (h:W.heap[g]?=some (.cells (nums .i64 l).toArray t (0,0))):(Kd.int .i64).C W (some ⟨g,0,none⟩) n l:=by
 refine ⟨hn.symm,by omega,fun _=>⟨_,rfl,fun j p hj=>⟨[.int .i64 p],rfl,rfl,fun i u hu=>?_⟩⟩⟩
 obtain ⟨hj1,hj2⟩:=List.getElem?_eq_some_iff.1 hj
 have h1:=nums_cell W g t l h j hj1
 have h2:nth l j=p:=by unfold nth;rw [List.getD_eq_getElem?_getD,hj];rfl
 cases i with
 | zero =>
  obtain rfl:Value.int .i64 p=u:=by simpa using hu
  rw [← h2]
  have ea:(⟨g,0,none⟩:Addr).add (j * 1+0)=⟨g,j,none⟩:=by cases j <;> simp [Addr.add]
  exact (congrArg W.cell? ea).trans h1
 | succ i=>simp at hu
set_option maxHeartbeats 1000000 in
theorem gcb_Pict.calls (a0:Int) (r:Bool) (w:World) (h:gcb_Pict.f a0=some r) :
  Calls Try.prog 45 #[.int .i64 a0] w fun e w'=>e= .returned (.bool r)∧Below w.heap.size w w':=by
 have HB:=Am (Below.refl w.heap.size w)
 have H':=Am (Option.some.inj h)
 clear h
 obtain ⟨q,b,hq,hqb,hql⟩:=gcb_Pict.bs gcb_Pict.L (by decide) gcb_Pict.up a0 154 0 154 155 (by omega) (by omega) (by decide) (fun t ht=>by omega) (fun t h1 h2=>by have:t < 154:=h2;omega) (by omega)
 have HQ:=Am (show slices_BinarySearch_int_int.f 155 gcb_Pict.L a0=some ((q:Int),b) from hq)
 have HQB:=Am hqb
 have hql:q≤154:=hql
 clear hq hqb
 go_enter Try.func45,Try.ntmps45
 go_wp2_with (first|(go_at_call 72;refine (gcb_Pict.edges_calls _).mono ?_;rintro e w2 ⟨rfl,hb2⟩;replace HB:=Am (below_step HB.out hb2);clear hb2;generalize hV1:Value.agg (nums .i64 gcb_Pict.L).toArray=V1;have HV1:=Am hV1;clear hV1)|((with_reducible refine gate_dst (N:=3) rfl ?_);refine alloc_event rfl 109 rfl 154 TK ?_;intro g3 w4 cs3 hcs hg hb hbel hsz;have HG3:=Am (show w.heap.size≤g3 by rw [hg];exact HB.out.size);have n0_:=Am (below_step HB.out hbel);have HH3:=Am hb;have HCS3:=Am hcs;clear HB hcs hg hb hbel hsz;have HB:=n0_;clear n0_)|((with_reducible refine gate_store (t:=109) (p:=3) rfl ?_);refine block_store rfl rfl 109 (.tmp 3) (.tmp 6) rfl rfl V1 rfl HH3.out (by rw [HCS3.out,← HV1.out];exact gcb_Pict.size) (by rw [HCS3.out];kernel_rfl) (by rw [← HV1.out];exact nums_one _) ?_;intro w6 hb2 hk2 hs2 hB2;replace HH3:=Am (show w6.heap[g3]?=some (.cells (nums .i64 gcb_Pict.L).toArray 109 (0,0)) by rw [← HV1.out] at hb2;exact hb2);replace HB:=Am (hB2 _ _ HB.out HG3.out);clear hb2 hk2 hs2 hB2))
 have HSC:=Am (fun (W:World) (c:Nat) (hc:154≤c) (hh:W.heap[g3]?=some (.cells (nums .i64 gcb_Pict.L).toArray 109 (0,0)))=>slices_BinarySearch_int_int.calls 155 (some ⟨g3,0,none⟩) c gcb_Pict.L a0 (q:Int) b W (gcb_Pict.blk_C W g3 _ gcb_Pict.L 154 (by decide) (by decide) hh) hc HQ.out)
 cases b with
 | true =>
  have hm:((q:Int)+1)=((q+1:Nat):Int):=by omega
  have HR:=Am (show r=(((q:Int)+1) % 2==1) by rw [← H'.out];unfold gcb_Pict.oddIn;rw [← HQB.out,if_pos rfl];rw [Bool.eq_iff_iff,beq_iff_eq,beq_iff_eq];omega)
  clear hm H' HQB HQ
  go_wp2_with (go_at_call 73;refine (HSC.out _ _ (by omega) HH3.out).mono ?_;rintro e w7 ⟨rfl,⟨m7,rfl⟩⟩)
  go_ret
  exact ⟨by rw [HR.out];rfl,pw_below_drewN HB.out _⟩
 | false =>
  have HR:=Am (show r=((q:Int) % 2==1) by rw [← H'.out];unfold gcb_Pict.oddIn;rw [← HQB.out,if_neg (by decide)];rw [Bool.eq_iff_iff,beq_iff_eq,beq_iff_eq];omega)
  clear H' HQB HQ
  go_wp2_with (go_at_call 73;refine (HSC.out _ _ (by omega) HH3.out).mono ?_;rintro e w7 ⟨rfl,⟨m7,rfl⟩⟩)
  go_ret
  exact ⟨by rw [HR.out];rfl,pw_below_drewN HB.out _⟩
end
def cluster_see.f (a0_0:Int) (a0_1:Int) (a0_2:Int):Option (Int × Int × Int × Int × Int × Bool):=(gcb_Of.f a0_2).bind fun t115=>((cols_Of.f a0_2).bind fun t116=>((gcb_Pict.f a0_2).bind fun t117=>(some (a0_0,a0_1,a0_2,t115,t116,t117))))
def cluster_see.T1:Bool × List (List Nat × List Nat):=(true,[([],[]),([],[]),([1],[1]),([2],[2]),([],[]),([4],[4]),([5,3],[5]),([],[]),([7],[7]),([8,6],[8]),([0,3,6,9],[0,3,6,9]),([10,9,0,1,2,3,4,5,6,7,8,9,10],[10])])
def cluster_see.B1:List Nat:=[0,0,2,6,0,16,62,0,128,510,1023,2047]
theorem cluster_see.tab1:rtab .any (opsOf Try.f25 1)=cluster_see.T1:=by kernel_rfl
theorem cluster_see.bits1:waitsOk cluster_see.T1.2 cluster_see.B1=true:=by kernel_rfl
set_option maxHeartbeats 8000000 in
theorem cluster_see.calls (a0_0:Int) (a0_1:Int) (a0_2:Int) (r1:Int) (r2:Int) (r3:Int) (r4:Int) (r5:Int) (r6:Bool) (w:World) (h:cluster_see.f a0_0 a0_1 a0_2=some (r1,r2,r3,r4,r5,r6)) :
  Calls Try.prog 25 #[.agg #[.int .i64 a0_0,.int .i64 a0_1,.int .i64 a0_2]] w fun e w'=>e= .returned (.agg #[.int .i64 r1,.int .i64 r2,.int .i64 r3,.int .i64 r4,.int .i64 r5,.bool r6])∧Below w.heap.size w w':=by
 have hu36:=Try.underlying36
 have hu62:=Try.underlying62
 have HB:=Am (Below.refl w.heap.size w)
 have H:((gcb_Of.f a0_2).bind fun t115=>((cols_Of.f a0_2).bind fun t116=>((gcb_Pict.f a0_2).bind fun t117=>(some (a0_0,a0_1,a0_2,t115,t116,t117)))))=some (r1,r2,r3,r4,r5,r6):=h
 clear h
 obtain ⟨t115,A20,H⟩:=Option.bind_eq_some_iff.mp H
 try dsimp only at H
 have A2:=Am A20
 clear A20
 obtain ⟨t116,A30,H⟩:=Option.bind_eq_some_iff.mp H
 try dsimp only at H
 have A3:=Am A30
 clear A30
 obtain ⟨t117,A40,H⟩:=Option.bind_eq_some_iff.mp H
 try dsimp only at H
 have A4:=Am A40
 clear A40
 simp only [Option.some.injEq,Prod.mk.injEq] at H
 obtain ⟨rfl,rfl,rfl,rfl,rfl,rfl⟩:=H
 go_enter Try.func25,Try.ntmps25
 try go_wp2_with (first|((with_reducible refine gate_dst (N:=1) rfl ?_);refine box_event ?hg (N:=1) ?hd (cs:= #[.int .i64 a0_0,.int .i64 a0_1,.int .i64 a0_2]) (t:=36) ?hr ?_;(case hd=>rfl);(case hg=>rfl);(case hr=>exact TG);intro gb113 hg w5 hbox hb;have BK113:=Am (hbox);have GW113:=Am (gwS hg);have GE113:=Am (gwS hg);replace HB:=Am (below_step TB hb);clear hb hbox hg)|((with_reducible refine gate_dst (N:=2) rfl ?_);refine box_event ?hg (N:=2) ?hd (cs:= #[.int .i64 0,.int .i64 0,.int .i64 0,.int .i64 0,.int .i64 0,.bool false]) (t:=62) ?hr ?_;(case hd=>rfl);(case hg=>rfl);(case hr=>exact TG);intro gb114 hg w6 hbox hb;have BK114:=Am (hbox);have GW114:=Am (gwS hg);have GE114:=Am (gwS hg);have NB113_114:=Am (ltS hg (blkU BK113.out));have NB114_113:=Am (gtS hg (blkU BK113.out));replace BK113:=Am (blk_below (blkU BK113.out) hb);replace HB:=Am (below_step TB hb);clear hb hbox hg))
 replace BK113:=Am (blk_drew BK113.out)
 replace BK114:=Am (blk_drew BK114.out)
 replace HB:=Am (below_drew1 HB.out)
 refine start_ (n:=12) (S:=fun w'=>w'.cell? ⟨gb113,0,none⟩=some (.int .i64 a0_0)∧w'.cell? ⟨gb113,1,none⟩=some (.int .i64 a0_1)∧w'.cell? ⟨gb113,2,none⟩=some (.int .i64 a0_2)) (ds:=[]) (bl 12 0) TK rfl rfl ⟨(blk_cell BK113.out 0).trans rfl,(blk_cell BK113.out 1).trans rfl,(blk_cell BK113.out 2).trans rfl⟩ (fun hHeld=>?_);refine with_tabW cluster_see.tab1 cluster_see.bits1 (fun HT_ HW_=>?_)
 generalize w6.drew=w7 at BK113 BK114 HB hHeld ⊢
 refine pureS (i:=1) (N:=some 4) (bl 12 2) rfl rfl (any_of HT_.out TK) ?_
 refine pureS (i:=4) (N:=some 7) (bl 12 18) rfl rfl (any_of HT_.out TK) ?_
 refine pureS (i:=7) (N:=some 10) (bl 12 146) rfl rfl (any_of HT_.out TK) ?_
 refine take_ (i:=0) (N:=some 3) (v:=?_) (a':=?_) (bl 12 147) rfl rfl (take_ofW HT_.out HW_.out TK) (fun _ _ _ h=>h) (Or.inl ⟨by rfl,?_⟩) hHeld ?_ ?_
 rotate_left
 ·
  rintro w' ⟨s0,s1,s2⟩
  go_simp
  with_reducible rfl
 rotate_left
 ·
  simp only [PT]
  rfl
 refine take_ (i:=2) (N:=some 5) (v:=?_) (a':=?_) (bl 12 151) rfl rfl (take_ofW HT_.out HW_.out TK) (fun _ _ _ h=>h) (Or.inl ⟨by rfl,?_⟩) hHeld ?_ ?_
 rotate_left
 ·
  rintro w' ⟨s0,s1,s2⟩
  go_simp
  with_reducible rfl
 rotate_left
 ·
  simp only [PT]
  rfl
 refine take_ (i:=5) (N:=some 8) (v:=?_) (a':=?_) (bl 12 183) rfl rfl (take_ofW HT_.out HW_.out TK) (fun _ _ _ h=>h) (Or.inl ⟨by rfl,?_⟩) hHeld ?_ ?_
 rotate_left
 ·
  rintro w' ⟨s0,s1,s2⟩
  go_simp
  with_reducible rfl
 rotate_left
 ·
  simp only [PT]
  rfl
 refine take_ (i:=8) (N:=some 11) (v:=?_) (a':=?_) (bl 12 439) rfl rfl (take_ofW HT_.out HW_.out TK) (fun _ _ _ h=>h) (Or.inl ⟨by rfl,?_⟩) hHeld ?_ ?_
 rotate_left
 ·
  rintro w' ⟨s0,s1,s2⟩
  go_simp
  with_reducible rfl
 rotate_left
 ·
  simp only [PT]
  rfl
 refine one_ (i:=3) (N:=some 6) (bl 12 447) rfl rfl (one_of HT_.out TK) (by decide) (fun K hK=>?_)
 refine goes_ Try.func43 TK rfl #[.int .i64 a0_2] (by rfl) rfl rfl TM ?_
 with_reducible refine (gcb_Of.calls a0_2 t115 _ A2.out).mono ?_
 rintro e w8 ⟨rfl,hb⟩
 refine ⟨_,rfl,?_⟩
 replace BK113:=Am (blk_below (blkU BK113.out) hb)
 replace BK114:=Am (blk_below (blkU BK114.out) hb)
 replace HB:=Am (below_step TB hb)
 (try clear hb)
 (try clear hb2)
 (try clear hk)
 (try clear hi)
 refine hK.out _ _ ⟨(blk_cell BK113.out 0).trans rfl,(blk_cell BK113.out 1).trans rfl,(blk_cell BK113.out 2).trans rfl⟩ (fun hHeld=>?_)
 clear hK K
 refine norm_ (a':=?_) ?_ ?_
 rotate_left
 ·
  show Act.put _ (some 6) _=_
  simp only [PT]
  rfl
 refine one_ (i:=6) (N:=some 9) (bl 12 511) rfl rfl (one_of HT_.out TK) (by decide) (fun K hK=>?_)
 refine goes_ Try.func44 TK rfl #[.int .i64 a0_2] (by rfl) rfl rfl TM ?_
 with_reducible refine (cols_Of.calls a0_2 t116 _ A3.out).mono ?_
 rintro e w9 ⟨rfl,hb⟩
 refine ⟨_,rfl,?_⟩
 replace BK113:=Am (blk_below (blkU BK113.out) hb)
 replace BK114:=Am (blk_below (blkU BK114.out) hb)
 replace HB:=Am (below_step TB hb)
 (try clear hb)
 (try clear hb2)
 (try clear hk)
 (try clear hi)
 refine hK.out _ _ ⟨(blk_cell BK113.out 0).trans rfl,(blk_cell BK113.out 1).trans rfl,(blk_cell BK113.out 2).trans rfl⟩ (fun hHeld=>?_)
 clear hK K
 refine norm_ (a':=?_) ?_ ?_
 rotate_left
 ·
  show Act.put _ (some 9) _=_
  simp only [PT]
  rfl
 refine one_ (i:=9) (N:=some 12) (bl 12 1023) rfl rfl (one_of HT_.out TK) (by decide) (fun K hK=>?_)
 refine goes_ Try.func45 TK rfl #[.int .i64 a0_2] (by rfl) rfl rfl TM ?_
 with_reducible refine (gcb_Pict.calls a0_2 t117 _ A4.out).mono ?_
 rintro e w10 ⟨rfl,hb⟩
 refine ⟨_,rfl,?_⟩
 replace BK113:=Am (blk_below (blkU BK113.out) hb)
 replace BK114:=Am (blk_below (blkU BK114.out) hb)
 replace HB:=Am (below_step TB hb)
 (try clear hb)
 (try clear hb2)
 (try clear hk)
 (try clear hi)
 refine hK.out _ _ ⟨(blk_cell BK113.out 0).trans rfl,(blk_cell BK113.out 1).trans rfl,(blk_cell BK113.out 2).trans rfl⟩ (fun hHeld=>?_)
 clear hK K
 refine norm_ (a':=?_) ?_ ?_
 rotate_left
 ·
  show Act.put _ (some 12) _=_
  simp only [PT]
  rfl
 refine pureS (i:=10) (N:=some 13) (bl 12 2047) rfl rfl (any_of HT_.out TK) ?_
 refine one_ (i:=11) (N:=none) (bl 12 4095) rfl rfl (one_of HT_.out TK) (by decide) (fun K hK=>?_)
 have hs11:w10.cell? ⟨gb114,0,none⟩=some (.int .i64 0):=(blk_cell BK114.out 0).trans rfl
 have hfs11:=blk_frozen BK114.out 0
 have hns11_0:=NB113_114.out
 have hms11_0:=NB114_113.out
 have hs12:w10.cell? ⟨gb114,1,none⟩=some (.int .i64 0):=(blk_cell BK114.out 1).trans rfl
 have hfs12:=blk_frozen BK114.out 1
 have hns12_0:=NB113_114.out
 have hms12_0:=NB114_113.out
 have hs13:w10.cell? ⟨gb114,2,none⟩=some (.int .i64 0):=(blk_cell BK114.out 2).trans rfl
 have hfs13:=blk_frozen BK114.out 2
 have hns13_0:=NB113_114.out
 have hms13_0:=NB114_113.out
 have hs14:w10.cell? ⟨gb114,3,none⟩=some (.int .i64 0):=(blk_cell BK114.out 3).trans rfl
 have hfs14:=blk_frozen BK114.out 3
 have hns14_0:=NB113_114.out
 have hms14_0:=NB114_113.out
 have hs15:w10.cell? ⟨gb114,4,none⟩=some (.int .i64 0):=(blk_cell BK114.out 4).trans rfl
 have hfs15:=blk_frozen BK114.out 4
 have hns15_0:=NB113_114.out
 have hms15_0:=NB114_113.out
 have hs16:w10.cell? ⟨gb114,5,none⟩=some (.bool false):=(blk_cell BK114.out 5).trans rfl
 have hfs16:=blk_frozen BK114.out 5
 have hns16_0:=NB113_114.out
 have hms16_0:=NB114_113.out
 refine skip_ (w1:=?_) (by rfl) rfl ?_ ?_
 rotate_left
 ·
  go_simp
  rfl
 refine hK.out _ _ ⟨((cell_far (p:=⟨gb114,_,none⟩) NB113_114.out _).trans (((cell_far (p:=⟨gb114,_,none⟩) NB113_114.out _).trans (((cell_far (p:=⟨gb114,_,none⟩) NB113_114.out _).trans (((cell_far (p:=⟨gb114,_,none⟩) NB113_114.out _).trans (((cell_far (p:=⟨gb114,_,none⟩) NB113_114.out _).trans (((cell_far (p:=⟨gb114,_,none⟩) NB113_114.out _).trans (hHeld.1)))))))))))),((cell_far (p:=⟨gb114,_,none⟩) NB113_114.out _).trans (((cell_far (p:=⟨gb114,_,none⟩) NB113_114.out _).trans (((cell_far (p:=⟨gb114,_,none⟩) NB113_114.out _).trans (((cell_far (p:=⟨gb114,_,none⟩) NB113_114.out _).trans (((cell_far (p:=⟨gb114,_,none⟩) NB113_114.out _).trans (((cell_far (p:=⟨gb114,_,none⟩) NB113_114.out _).trans (hHeld.2.1)))))))))))),((cell_far (p:=⟨gb114,_,none⟩) NB113_114.out _).trans (((cell_far (p:=⟨gb114,_,none⟩) NB113_114.out _).trans (((cell_far (p:=⟨gb114,_,none⟩) NB113_114.out _).trans (((cell_far (p:=⟨gb114,_,none⟩) NB113_114.out _).trans (((cell_far (p:=⟨gb114,_,none⟩) NB113_114.out _).trans (((cell_far (p:=⟨gb114,_,none⟩) NB113_114.out _).trans (hHeld.2.2))))))))))))⟩ (fun hHeld=>?_)
 clear hK K
 refine done_ (done_of HT_.out TK) ?_
 try go_wp2
 refine bodyPost_ret (results_cell_row rfl _ _ gb114 62 #[.int .i64 a0_0,.int .i64 a0_1,.int .i64 a0_2,.int .i64 t115,.int .i64 t116,.bool t117] (0,0) _ rfl (by refine blk_put (cs:= #[.int .i64 a0_0,.int .i64 a0_1,.int .i64 a0_2,.int .i64 t115,.int .i64 t116,.bool false]) ?_ 5 _ rfl;refine blk_put (cs:= #[.int .i64 a0_0,.int .i64 a0_1,.int .i64 a0_2,.int .i64 t115,.int .i64 0,.bool false]) ?_ 4 _ rfl;refine blk_put (cs:= #[.int .i64 a0_0,.int .i64 a0_1,.int .i64 a0_2,.int .i64 0,.int .i64 0,.bool false]) ?_ 3 _ rfl;refine blk_put (cs:= #[.int .i64 a0_0,.int .i64 a0_1,.int .i64 0,.int .i64 0,.int .i64 0,.bool false]) ?_ 2 _ rfl;refine blk_put (cs:= #[.int .i64 a0_0,.int .i64 0,.int .i64 0,.int .i64 0,.int .i64 0,.bool false]) ?_ 1 _ rfl;refine blk_put (cs:= #[.int .i64 0,.int .i64 0,.int .i64 0,.int .i64 0,.int .i64 0,.bool false]) ?_ 0 _ rfl;exact BK114.out) Try.underlying62 rfl TK) rfl ?_
 exact ⟨TE,TB⟩
section
open Go.Proofs.YteoaegigjlhamaaH
def cluster_seen_joins.base:List Int:=[0,0,0,0,0,0,0,0,0,13824,3072,2048,3072,2048]
def cluster_seen_joins.zeros:List Int:=[0,0,0,0,0,0,0,0,0,0,0,0,0,0]
def cluster_seen_joins.tb (i:Int):List Int:=(List.range 14).map fun (j:Nat)=>if (j:Int) < i∧(j < 1∨3 < j) then bits .or .i64 (nth cluster_seen_joins.base j) 304 else nth cluster_seen_joins.base j
def cluster_seen_joins.tab:List Int:=[304,4,0,0,304,304,304,16369,304,14128,3376,2352,3376,2352]
theorem cluster_seen_joins.tb_get (i:Int) (h0:0≤i) (h1:i < 14):nth (cluster_seen_joins.tb i) i.toNat=nth cluster_seen_joins.base i.toNat:=by
 obtain ⟨n,rfl⟩:=Int.eq_ofNat_of_zero_le h0
 have h: ∀ n:Nat,n < 14→nth (cluster_seen_joins.tb (n:Int)) n=nth cluster_seen_joins.base n:=by decide +kernel
 exact h n (by omega)
theorem cluster_seen_joins.tb_set (i:Int) (h0:0≤i) (h1:i < 14) (h:i < 1∨3 < i):(nums .i64 (cluster_seen_joins.tb i)).toArray.setIfInBounds i.toNat (.int .i64 (bits .or .i64 (nth cluster_seen_joins.base i.toNat) 304))=(nums .i64 (cluster_seen_joins.tb (i+1))).toArray:=by
 obtain ⟨n,rfl⟩:=Int.eq_ofNat_of_zero_le h0
 have h: ∀ n:Nat,n < 14→(n < 1∨3 < n)→(cluster_seen_joins.tb (n:Int)).set n (bits .or .i64 (nth cluster_seen_joins.base n) 304)=cluster_seen_joins.tb ((n:Int)+1):=by decide +kernel
 rw [← h n (by omega) (by omega)]
 simp [nums,List.map_set]
theorem cluster_seen_joins.tb_keep (i:Int) (h0:0≤i) (h1:i < 14) (h: ¬ (i < 1∨3 < i)):cluster_seen_joins.tb i=cluster_seen_joins.tb (i+1):=by
 obtain ⟨n,rfl⟩:=Int.eq_ofNat_of_zero_le h0
 have h: ∀ n:Nat,n < 14→ ¬ (n < 1∨3 < n)→cluster_seen_joins.tb (n:Int)=cluster_seen_joins.tb ((n:Int)+1):=by decide +kernel
 exact h n (by omega) (by omega)
theorem cluster_seen_joins.tb_len (i:Int):(cluster_seen_joins.tb i).length=14:=by simp [cluster_seen_joins.tb]
theorem cluster_seen_joins.tb_0:cluster_seen_joins.tb 0=cluster_seen_joins.base:=by decide +kernel
theorem cluster_seen_joins.tb_end:((cluster_seen_joins.tb 14).set 7 16369).set 1 4=cluster_seen_joins.tab:=by decide +kernel
theorem cluster_seen_joins.end_eq:((nums .i64 (cluster_seen_joins.tb 14)).toArray.setIfInBounds 7 (.int .i64 16369)).setIfInBounds 1 (.int .i64 4)=(nums .i64 cluster_seen_joins.tab).toArray:=by
 rw [← cluster_seen_joins.tb_end]
 simp [nums,List.map_set]
theorem cluster_seen_joins.cell_of {W:World} {g:Nat} {t:TypeId} (h:W.heap[g]?=some (.cells (nums .i64 cluster_seen_joins.tab).toArray t (0,0))) (j:Nat) (v:Value) (hj:(nums .i64 cluster_seen_joins.tab)[j]?=some v):W.cell? ((⟨g,0,none⟩:Addr).add j)=some v:=by
 have e:(⟨g,0,none⟩:Addr).add j=⟨g,j,none⟩:=by
  by_cases h0:j=0
  ·
   rw [h0];rfl
  ·
   simp [Addr.add,h0]
 rw [e,blk_cell h j]
 simpa using hj
theorem cluster_seen_joins.build86 (W:World):(Instr.build 84 #[(9,.int .i64 13824),(12,.int .i64 3072),(10,.int .i64 3072),(13,.int .i64 2048),(11,.int .i64 2048)]).run Try.prog W= .ok (.agg (nums .i64 cluster_seen_joins.base).toArray) W:=by kernel_rfl
attribute [local go_sem] cluster_seen_joins.build86
set_option maxHeartbeats 4000000 in
theorem cluster_seen_joins.behind_calls (w:World):Calls Try.prog 46 #[] w fun e w'=>e= .returned (.agg (nums .i64 cluster_seen_joins.tab).toArray)∧Below w.heap.size w w':=by
 go_enter Try.func46,Try.ntmps46
 have HB:=Am (Below.refl w.heap.size w)
 go_wp2_with fail
 have hk1:=blk_new (w.alloc (Obj.cells (nums .i64 cluster_seen_joins.zeros).toArray 84)) (Obj.cells (nums .i64 cluster_seen_joins.base).toArray 84)
 have hk0:=blk_alloc (blk_new w (Obj.cells (nums .i64 cluster_seen_joins.zeros).toArray 84)) (Obj.cells (nums .i64 cluster_seen_joins.base).toArray 84)
 rw [World.size_alloc] at hk1
 have HB1:=Am (below_alloc (below_alloc HB.out (Obj.cells (nums .i64 cluster_seen_joins.zeros).toArray 84)) (Obj.cells (nums .i64 cluster_seen_joins.base).toArray 84))
 have HK0:=Am hk0
 have HK1:=Am hk1
 clear hk0 hk1 HB
 go_loopg [4] 14 (fun kq v4 w'=> ∃ i:Int,v4= .int .i64 i∧0≤i∧i≤14∧14 - i≤kq∧Aside0 (Below w.heap.size w w')∧Aside0 (w'.heap[w.heap.size]?=some (.cells (nums .i64 cluster_seen_joins.zeros).toArray 84 (0,0)))∧Aside0 (w'.heap[w.heap.size+1]?=some (.cells (nums .i64 (cluster_seen_joins.tb i)).toArray 84 (0,0))))
 case atStart=>exact ⟨0,rfl,by omega,by omega,by omega,HB1,HK0,⟨by rw [cluster_seen_joins.tb_0];exact HK1.out⟩⟩
 case round =>
  clear HB1 HK0 HK1
  obtain ⟨i,rfl,h0,h14,hq,HB,HK0,HK1⟩:=hrel
  by_cases hlt:i < 14
  ·
   have hlb:decide (i < 14)=true:=decide_eq_true hlt
   have hl2:=eq_true hlt
   have h02:=eq_true h0
   have hc1:=nums_cell wr (w.heap.size+1) 84 (cluster_seen_joins.tb i) HK1.out i.toNat (by rw [cluster_seen_joins.tb_len];omega)
   rw [cluster_seen_joins.tb_get i h0 hlt] at hc1
   have hfr:=blk_frozen HK1.out i.toNat
   by_cases hs:i < 1∨3 < i
   ·
    have HS:=Am (cluster_seen_joins.tb_set i h0 hlt hs)
    generalize nth cluster_seen_joins.base i.toNat=v at *
    by_cases h1:i < 1
    ·
     have h1b:decide (i < 1)=true:=decide_eq_true h1
     go_wp2
     go_roundg (gk - 1)
     case measure=>omega
     case rel=>exact ⟨i+1,rfl,by omega,by omega,by omega,⟨HB.out.setCell (p:=⟨w.heap.size+1,i.toNat,none⟩) (Nat.le_succ _) _⟩,⟨blk_far HK0.out (p:=⟨w.heap.size+1,i.toNat,none⟩) (Nat.ne_of_lt (Nat.lt_succ_self _)) _⟩,⟨by rw [← HS.out];exact blk_set HK1.out i.toNat _⟩⟩
    ·
     have h1b:decide (i < 1)=false:=decide_eq_false h1
     have h1c:decide (i > 3)=true:=decide_eq_true (by omega)
     go_wp2
     go_roundg (gk - 1)
     case measure=>omega
     case rel=>exact ⟨i+1,rfl,by omega,by omega,by omega,⟨HB.out.setCell (p:=⟨w.heap.size+1,i.toNat,none⟩) (Nat.le_succ _) _⟩,⟨blk_far HK0.out (p:=⟨w.heap.size+1,i.toNat,none⟩) (Nat.ne_of_lt (Nat.lt_succ_self _)) _⟩,⟨by rw [← HS.out];exact blk_set HK1.out i.toNat _⟩⟩
   ·
    have HS:=Am (cluster_seen_joins.tb_keep i h0 hlt hs)
    have h1b:decide (i < 1)=false:=decide_eq_false (by omega)
    have h1c:decide (i > 3)=false:=decide_eq_false (by omega)
    clear hc1 hfr
    go_wp2
    go_roundg (gk - 1)
    case measure=>omega
    case rel=>exact ⟨i+1,rfl,by omega,by omega,by omega,HB,HK0,⟨by rw [← HS.out];exact HK1.out⟩⟩
  ·
   have hlb:decide (i < 14)=false:=decide_eq_false hlt
   obtain rfl:i=14:=by omega
   have hc7:=nums_cell wr (w.heap.size+1) 84 (cluster_seen_joins.tb 14) HK1.out 7 (by rw [cluster_seen_joins.tb_len];omega)
   have hc1:=nums_cell wr (w.heap.size+1) 84 (cluster_seen_joins.tb 14) HK1.out 1 (by rw [cluster_seen_joins.tb_len];omega)
   have hf7:=blk_frozen HK1.out 7
   have hf1:=blk_frozen HK1.out 1
   generalize nth (cluster_seen_joins.tb 14) 7=v7 at *
   generalize nth (cluster_seen_joins.tb 14) 1=v1 at *
   go_wp2_with (first|((with_reducible refine gate_dst (N:=21) rfl ?_);have hk2:=blk_set (blk_set HK1.out 7 (.int .i64 16369)) 1 (.int .i64 4);rw [cluster_seen_joins.end_eq] at hk2;have HK2:=Am hk2;have HK3:=Am (blk_far (blk_far HK0.out (p:=⟨w.heap.size+1,7,none⟩) (Nat.ne_of_lt (Nat.lt_succ_self _)) (.int .i64 16369)) (p:=⟨w.heap.size+1,1,none⟩) (Nat.ne_of_lt (Nat.lt_succ_self _)) (.int .i64 4));have HB3:=Am ((HB.out.setCell (p:=⟨w.heap.size+1,7,none⟩) (Nat.le_succ _) (.int .i64 16369)).setCell (p:=⟨w.heap.size+1,1,none⟩) (Nat.le_succ _) (.int .i64 4));clear hk2 hc7 hc1 hf7 hf1 HB HK0 HK1;refine agg_load rfl 84 (.tmp 1) rfl ⟨w.heap.size+1,0,none⟩ rfl (nums .i64 cluster_seen_joins.tab) _ Try.underlying84 rfl TK (fun j v hj=>cluster_seen_joins.cell_of HK2.out j v hj) ?_;generalize (wr.setCell {block:=w.heap.size+1,off:=7} (Value.int IntKind.i64 16369)).setCell {block:=w.heap.size+1,off:=1} (Value.int IntKind.i64 4)=w4 at *)|((with_reducible refine gate_store (t:=84) (p:=0) (v:= .tmp 21) rfl ?_);refine block_store rfl rfl 84 (.tmp 0) (.tmp 21) rfl rfl (.agg (nums .i64 cluster_seen_joins.tab).toArray) rfl HK3.out rfl TK (nums_one cluster_seen_joins.tab) ?_;intro w5 hb5 hk5 hs5 hB5;have HB5:=Am (hB5 _ _ HB3.out (Nat.le_refl _));clear hk5 hs5 hB5))
   exact bodyPost_ret (v:= .agg (nums .i64 cluster_seen_joins.tab).toArray) (results_c1 rfl _ _ _ _ _ _ _ rfl hb5 Try.underlying84 rfl TK) rfl ⟨rfl,HB5.out⟩
theorem cluster_seen_joins.new_blk (w:World) (o o':Obj):((w.alloc o).alloc o').heap[w.heap.size+1]?=some o':=by
 have h:=blk_new (w.alloc o) o'
 rw [World.size_alloc] at h
 exact h
def cluster_seen_joins.jn (a b:Int):Bool:=bits .and .i64 (nth cluster_seen_joins.tab a.toNat / 2 ^ b.toNat) 1==1
def cluster_seen_joins.f (a0_0 a0_1 a0_2 a0_3 a0_4:Int) (a0_5:Bool) (a0_6 a0_7 a1_0 a1_1 a1_2 a1_3 a1_4:Int) (a1_5:Bool):Option Bool :=
 if 0≤a0_3 then (if a0_3 < 14 then (if 0≤a1_3 then (if a1_3 < 14 then (some (if cluster_seen_joins.jn a0_3 a1_3=true then true else if a1_5=true then (if (a0_6==2)=true then true else if (a1_3==6)=true then (Int.tmod a0_7 2==1) else false) else if (a1_3==6)=true then (Int.tmod a0_7 2==1) else false)) else none) else none) else none) else none
set_option maxHeartbeats 4000000 in
theorem cluster_seen_joins.calls (a0_0 a0_1 a0_2 a0_3 a0_4:Int) (a0_5:Bool) (a0_6 a0_7 a1_0 a1_1 a1_2 a1_3 a1_4:Int) (a1_5:Bool) (r:Bool) (w:World) (h:cluster_seen_joins.f a0_0 a0_1 a0_2 a0_3 a0_4 a0_5 a0_6 a0_7 a1_0 a1_1 a1_2 a1_3 a1_4 a1_5=some r) :
  Calls Try.prog 26 #[.agg #[.int .i64 a0_0,.int .i64 a0_1,.int .i64 a0_2,.int .i64 a0_3,.int .i64 a0_4,.bool a0_5,.int .i64 a0_6,.int .i64 a0_7],.agg #[.int .i64 a1_0,.int .i64 a1_1,.int .i64 a1_2,.int .i64 a1_3,.int .i64 a1_4,.bool a1_5]] w fun e w'=>e= .returned (.bool r)∧Below w.heap.size w w':=by
 have hu1:=Try.underlying64
 have hu2:=Try.underlying62
 unfold cluster_seen_joins.f at h
 by_cases c1:0≤a0_3
 rotate_left
 ·
  rw [if_neg c1] at h
  cases h
 rw [if_pos c1] at h
 by_cases c2:a0_3 < 14
 rotate_left
 ·
  rw [if_neg c2] at h
  cases h
 rw [if_pos c2] at h
 by_cases c3:0≤a1_3
 rotate_left
 ·
  rw [if_neg c3] at h
  cases h
 rw [if_pos c3] at h
 by_cases c4:a1_3 < 14
 rotate_left
 ·
  rw [if_neg c4] at h
  cases h
 rw [if_pos c4] at h
 have c1e:=eq_true c1
 have c2e:=eq_true c2
 have c3e:=eq_true c3
 have HT:=Am (show ∀ (W:World) (g:Nat),W.heap[g]?=some (.cells (nums .i64 cluster_seen_joins.tab).toArray 84 (0,0))→W.cell? ⟨g,a0_3.toNat,none⟩=some (.int .i64 (nth cluster_seen_joins.tab a0_3.toNat)) from fun W g hW=>nums_cell W g 84 cluster_seen_joins.tab hW a0_3.toNat (by show a0_3.toNat < 14;omega))
 unfold cluster_seen_joins.jn at h
 generalize nth cluster_seen_joins.tab a0_3.toNat=v at *
 injection h with h
 subst h
 cases hj:(bits .and .i64 (v / 2 ^ a1_3.toNat) 1==1)
 all_goals cases a1_5
 all_goals cases h2:(a0_6==2)
 all_goals cases h6:(a1_3==6)
 all_goals simp only [Bool.false_eq_true,if_true,if_false,reduceIte]
 all_goals (
  go_enter Try.func26,Try.ntmps26
  have HB:=Am (Below.refl w.heap.size w)
  go_wp2_with (first|(go_at_call 46;refine (cluster_seen_joins.behind_calls _).mono ?_;rintro e w1 ⟨rfl,hb1⟩;have n0_:=Am (below_step (below_alloc (below_alloc HB.out _) _) hb1);have HK0:=Am (blk_below (blk_alloc (blk_new w _) _) hb1);have HK1:=Am (blk_below (cluster_seen_joins.new_blk w _ _) hb1);clear HB hb1;have HB:=n0_;clear n0_)|((with_reducible refine gate_dst (N:=5) rfl ?_);refine alloc_event rfl 84 rfl 14 TK ?_;intro g2 w2 cs hcs hg2 hb2 hbel hsz;have n0_:=Am (below_step HB.out hbel);have n1_:=Am (blk_below HK0.out hbel);have n2_:=Am (blk_below HK1.out hbel);have HG:=Am (show w.heap.size+2≤g2 by rw [hg2];have:=blk_lt HK1.out;omega);have HK2:=Am hb2;have HCS:=Am hcs;clear HB HK0 HK1 hcs hg2 hb2 hbel hsz;have HB:=n0_;have HK0:=n1_;have HK1:=n2_;clear n0_ n1_ n2_)|((with_reducible refine gate_store (t:=84) (p:=5) (v:= .tmp 6) rfl ?_);refine block_store rfl rfl 84 (.tmp 5) (.tmp 6) rfl rfl (.agg (nums .i64 cluster_seen_joins.tab).toArray) rfl HK2.out (by rw [HCS.out];rfl) (by rw [HCS.out];kernel_rfl) (nums_one cluster_seen_joins.tab) ?_;intro w3 hb3 hk3 hs3 hB3;have ct:=HT.out w3 g2 hb3;have hft:=blk_frozen hb3 a0_3.toNat;have n0_:=Am (hB3 _ _ HB.out (by have:=HG.out;omega));have k0:=(hk3 w.heap.size (by have:=HG.out;omega)).trans HK0.out;have k1:=(hk3 (w.heap.size+1) (by have:=HG.out;omega)).trans HK1.out;have ca3:=(blk_cell k0 3).trans rfl;have ca6:=(blk_cell k0 6).trans rfl;have ca7:=(blk_cell k0 7).trans rfl;have cb3:=(blk_cell k1 3).trans rfl;have cb5:=(blk_cell k1 5).trans rfl;clear HB HK0 HK1 HK2 HCS HG hb3 hk3 hs3 hB3 k0 k1;have HB:=n0_;clear n0_))
  (try simp only [Act.put,List.setIfInBounds_toArray,List.set_cons_zero,List.set_cons_succ])
  go_quiet (fail)
  all_goals (try go_wp2)
  go_ret
  exact ⟨rfl,pw_below_drewN (by repeat (first|exact HB.out|apply pw_below_drewN)) _⟩)
end
def cluster_first.f (a0_0 a0_1 a0_2 a0_3 a0_4:Int) (a0_5:Bool) (a1:Int):Option (Int × Int × Int × Int × Int × Int) :=
 some (a0_0,a0_1,a1,wrap64 (a1+1),if a0_3≥1 then (if a0_3≤3 then 0 else a0_4) else a0_4,a0_2)
section
open Go.Proofs.YteoaegigjlhamaaH
theorem cluster_first.new2 (w:World) (o0 o1:Obj):((w.alloc o0).alloc o1).heap[w.heap.size+1]?=some o1:=by
 have h:=blk_new (w.alloc o0) o1
 rw [World.size_alloc] at h
 exact h
set_option maxHeartbeats 4000000 in
theorem cluster_first.calls (a0_0 a0_1 a0_2 a0_3 a0_4:Int) (a0_5:Bool) (a1:Int) (r1 r2 r3 r4 r5 r6:Int) (w:World) (h:cluster_first.f a0_0 a0_1 a0_2 a0_3 a0_4 a0_5 a1=some (r1,r2,r3,r4,r5,r6)) :
  Calls Try.prog 27 #[.agg #[.int .i64 a0_0,.int .i64 a0_1,.int .i64 a0_2,.int .i64 a0_3,.int .i64 a0_4,.bool a0_5],.int .i64 a1] w fun e w'=>e= .returned (.agg #[.int .i64 r1,.int .i64 r2,.int .i64 r3,.int .i64 r4,.int .i64 r5,.int .i64 r6])∧Below w.heap.size w w':=by
 have hu1:=Try.underlying62
 have hu2:=Try.underlying40
 unfold cluster_first.f at h
 simp only [Option.some.injEq,Prod.mk.injEq] at h
 obtain ⟨rfl,rfl,rfl,rfl,h5,rfl⟩:=h
 have HB:=Am (Below.refl w.heap.size w)
 by_cases c1:a0_3≥1
 rotate_left
 ·
  rw [if_neg c1] at h5
  subst h5
  have c1b:=decide_eq_false c1
  clear c1
  go_enter Try.func27,Try.ntmps27
  go_wp2
  refine bodyPost_ret (results_c1 (p:=4) rfl _ _ (w.heap.size+1) 40 _ (0,0) _ rfl (blk_alloc (cluster_first.new2 w _ _) _) hu2 rfl TK) rfl ⟨rfl,?_⟩
  exact below_alloc (below_alloc (below_alloc HB.out _) _) _
 rw [if_pos c1] at h5
 have c1b:=decide_eq_true c1
 by_cases c2:a0_3≤3
 ·
  rw [if_pos c2] at h5
  subst h5
  have c2b:=decide_eq_true c2
  clear c1 c2
  go_enter Try.func27,Try.ntmps27
  go_wp2
  refine bodyPost_ret (results_c1 (p:=4) rfl _ _ (w.heap.size+1) 40 _ (0,0) _ rfl (blk_alloc (cluster_first.new2 w _ _) _) hu2 rfl TK) rfl ⟨rfl,?_⟩
  exact below_alloc (below_alloc (below_alloc HB.out _) _) _
 rw [if_neg c2] at h5
 subst h5
 have c2b:=decide_eq_false c2
 clear c1 c2
 go_enter Try.func27,Try.ntmps27
 go_wp2
 refine bodyPost_ret (results_c1 (p:=4) rfl _ _ (w.heap.size+1) 40 _ (0,0) _ rfl (blk_alloc (cluster_first.new2 w _ _) _) hu2 rfl TK) rfl ⟨rfl,?_⟩
 exact below_alloc (below_alloc (below_alloc HB.out _) _) _
end
def cluster_seen_then.tie (b3:Int) (b5:Bool) (a6:Int):Int:=if b5=true then 1 else if (b3==4)=true then (if (a6==1)=true then 1 else 0) else if (b3==5)=true then (if (a6==1)=true then 2 else 0) else 0
def cluster_seen_then.flag (b3:Int) (a7:Int):Int:=if (b3==6)=true then wrap64 (a7+1) else 0
def cluster_seen_then.f (a0_0 a0_1 a0_2 a0_3 a0_4:Int) (a0_5:Bool) (a0_6 a0_7 a1_0 a1_1 a1_2 a1_3 a1_4:Int) (a1_5:Bool):Option (Int × Int × Int × Int × Int × Bool × Int × Int) :=
 some (a1_0,a1_1,a1_2,a1_3,a1_4,a1_5,cluster_seen_then.tie a1_3 a1_5 a0_6,cluster_seen_then.flag a1_3 a0_7)
theorem cluster_seen_then.new3 (w:World) (o0 o1 o2 o3:Obj):((((w.alloc o0).alloc o1).alloc o2).alloc o3).heap[w.heap.size+1+1]?=some o2:=by
 have h:=blk_alloc (blk_new ((w.alloc o0).alloc o1) o2) o3
 rw [World.size_alloc,World.size_alloc] at h
 exact h
section
open Go.Proofs.YteoaegigjlhamaaH
set_option maxHeartbeats 4000000 in
theorem cluster_seen_then.calls (a0_0 a0_1 a0_2 a0_3 a0_4:Int) (a0_5:Bool) (a0_6 a0_7 a1_0 a1_1 a1_2 a1_3 a1_4:Int) (a1_5:Bool) (r1 r2 r3 r4 r5:Int) (r6:Bool) (r7 r8:Int) (w:World) (h:cluster_seen_then.f a0_0 a0_1 a0_2 a0_3 a0_4 a0_5 a0_6 a0_7 a1_0 a1_1 a1_2 a1_3 a1_4 a1_5=some (r1,r2,r3,r4,r5,r6,r7,r8)) :
  Calls Try.prog 28 #[.agg #[.int .i64 a0_0,.int .i64 a0_1,.int .i64 a0_2,.int .i64 a0_3,.int .i64 a0_4,.bool a0_5,.int .i64 a0_6,.int .i64 a0_7],.agg #[.int .i64 a1_0,.int .i64 a1_1,.int .i64 a1_2,.int .i64 a1_3,.int .i64 a1_4,.bool a1_5]] w fun e w'=>e= .returned (.agg #[.int .i64 r1,.int .i64 r2,.int .i64 r3,.int .i64 r4,.int .i64 r5,.bool r6,.int .i64 r7,.int .i64 r8])∧Below w.heap.size w w':=by
 have hu1:=Try.underlying64
 have hu2:=Try.underlying62
 unfold cluster_seen_then.f at h
 simp only [Option.some.injEq,Prod.mk.injEq] at h
 obtain ⟨rfl,rfl,rfl,rfl,rfl,rfl,h7,h8⟩:=h
 unfold cluster_seen_then.tie at h7
 unfold cluster_seen_then.flag at h8
 cases a1_5
 all_goals cases h4b:(a1_3==4)
 all_goals cases h5b:(a1_3==5)
 all_goals cases h1b:(a0_6==1)
 all_goals cases h6b:(a1_3==6)
 all_goals simp only [h4b,h5b,h1b,h6b,Bool.false_eq_true,if_true,if_false,reduceIte] at h7 h8
 all_goals subst h7
 all_goals subst h8
 all_goals (
  have HB:=Am (Below.refl w.heap.size w)
  go_enter Try.func28,Try.ntmps28
  go_wp2
  refine bodyPost_ret (results_c1 (p:=4) rfl _ _ (w.heap.size+1+1) 64 _ (0,0) _ rfl (cluster_seen_then.new3 w _ _ _ _) hu1 rfl TK) rfl ⟨rfl,?_⟩
  exact below_alloc (below_alloc (below_alloc (below_alloc HB.out _) _) _) _)
end
def cluster_Of.grow (c:S40) (r1 r2 a3:Int) (a5:Bool) (b4 n:Int):S40:=⟨c.f0,wrap64 (c.f1+r1),c.f2,n,if (a3==1)=true then c.f4 else if (r2==65039)=true then (if a5=true then 2 else max c.f4 b4) else max c.f4 b4,c.f5⟩
def cluster_Of.lp:List S36→List S40→Int→Int→Int→Int→Int→Bool→Int→Int→Nat→Option (List S40)
 | [],out,_,_,_,_,_,_,_,_,_=>some out
 | r::t,out,a0,a1,a2,a3,a4,a5,a6,a7,i =>
  (cluster_see.f r.f0 r.f1 r.f2).bind fun b=>(cluster_seen_then.f a0 a1 a2 a3 a4 a5 a6 a7 b.1 b.2.1 b.2.2.1 b.2.2.2.1 b.2.2.2.2.1 b.2.2.2.2.2).bind fun n =>
   if i=0 then (if out.length < 2932031007402 then (cluster_first.f b.1 b.2.1 b.2.2.1 b.2.2.2.1 b.2.2.2.2.1 b.2.2.2.2.2 (i:Int)).bind fun c=>cluster_Of.lp t (out++[⟨c.1,c.2.1,c.2.2.1,c.2.2.2.1,c.2.2.2.2.1,c.2.2.2.2.2⟩]) n.1 n.2.1 n.2.2.1 n.2.2.2.1 n.2.2.2.2.1 n.2.2.2.2.2.1 n.2.2.2.2.2.2.1 n.2.2.2.2.2.2.2 (i+1) else none)
   else (cluster_seen_joins.f a0 a1 a2 a3 a4 a5 a6 a7 b.1 b.2.1 b.2.2.1 b.2.2.2.1 b.2.2.2.2.1 b.2.2.2.2.2).bind fun j =>
    if j=true then (if 0 < out.length then cluster_Of.lp t (out.set (out.length - 1) (cluster_Of.grow (out.getD (out.length - 1) z40) r.f1 r.f2 a3 a5 b.2.2.2.2.1 ((i:Int)+1))) n.1 n.2.1 n.2.2.1 n.2.2.2.1 n.2.2.2.2.1 n.2.2.2.2.2.1 n.2.2.2.2.2.2.1 n.2.2.2.2.2.2.2 (i+1) else none)
    else (if out.length < 2932031007402 then (cluster_first.f b.1 b.2.1 b.2.2.1 b.2.2.2.1 b.2.2.2.2.1 b.2.2.2.2.2 (i:Int)).bind fun c=>cluster_Of.lp t (out++[⟨c.1,c.2.1,c.2.2.1,c.2.2.2.1,c.2.2.2.2.1,c.2.2.2.2.2⟩]) n.1 n.2.1 n.2.2.1 n.2.2.2.1 n.2.2.2.2.1 n.2.2.2.2.2.1 n.2.2.2.2.2.2.1 n.2.2.2.2.2.2.2 (i+1) else none)
def cluster_Of.f (l0:List S36):Option (List S40):=cluster_Of.lp l0 [] 0 0 0 0 0 false 0 0 0
section
open Go.Proofs.YteoaegigjlhamaaH
def cluster_Of.St (w0 W:World) (ok:Nat→Prop) (v:Value) (out:List S40) (A:Array Value):Prop :=
 Kd.R k40 40 W w0.heap.size ok v out∧W.heap[w0.heap.size]?=some (.cells A 64 (0,0))∧Below w0.heap.size w0 W∧ ∀ k,ok k→k≠w0.heap.size
theorem cluster_Of.St_below {w0 W W':World} {ok:Nat→Prop} {v:Value} {out:List S40} {A:Array Value} (h:cluster_Of.St w0 W ok v out A) (hb:Below W.heap.size W W'):cluster_Of.St w0 W' ok v out A :=
 ⟨Kd.R_below h.1 hb,blk_below h.2.1 hb,below_step h.2.2.1 hb,h.2.2.2⟩
theorem cluster_Of.St_alloc {w0 W W':World} {ok:Nat→Prop} {v:Value} {out:List S40} {A:Array Value} (h:cluster_Of.St w0 W ok v out A) (hb:Below W.heap.size W W') {g:Nat} (hg:g=W.heap.size):cluster_Of.St w0 W' (fun k=>ok k∧k≠g) v out A :=
 ⟨Kd.R_below (Kd.R_elderB h.1 g (by omega)) hb,blk_below h.2.1 hb,below_step h.2.2.1 hb,fun k hk=>h.2.2.2 k hk.1⟩
theorem cluster_Of.St_put {w0 W W':World} {ok:Nat→Prop} {v:Value} {out:List S40} {A:Array Value} (h:cluster_Of.St w0 W ok v out A) {g:Nat} (hk: ∀ k,k≠g→W'.heap[k]?=W.heap[k]?) (hB: ∀ B w0,Below B w0 W→B≤g→Below B w0 W') (hg:w0.heap.size < g) (hok: ∀ k,ok k→k≠g):cluster_Of.St w0 W' ok v out A :=
 ⟨Kd.R_move h.1 (fun k hk2=>hk k (hok k hk2)),(hk _ (by omega)).trans h.2.1,hB _ _ h.2.2.1 (by omega),h.2.2.2⟩
theorem cluster_Of.St_putA {w0 W W':World} {ok:Nat→Prop} {v:Value} {out:List S40} {A A':Array Value} (h:cluster_Of.St w0 W ok v out A) (hk: ∀ k,k≠w0.heap.size→W'.heap[k]?=W.heap[k]?) (hB: ∀ B w,Below B w W→B≤w0.heap.size→Below B w W') (hA:W'.heap[w0.heap.size]?=some (.cells A' 64 (0,0))):cluster_Of.St w0 W' ok v out A' :=
 ⟨Kd.R_move h.1 (fun k hk2=>hk k (h.2.2.2 k hk2)),hA,hB _ _ h.2.2.1 (Nat.le_refl _),h.2.2.2⟩
theorem cluster_Of.St_app {w0 W W':World} {ok:Nat→Prop} {v v':Value} {out out':List S40} {A:Array Value} (h:cluster_Of.St w0 W ok v out A) (ho:Kd.R k40 40 W' w0.heap.size ok v' out') (hb:Below w0.heap.size w0 W') (hg:W.grownBy W' v.ownBlock):cluster_Of.St w0 W' ok v' out' A :=
 ⟨ho,blk_grown h.2.1 hg (Kd.R_away h.1 h.2.2.2),hb,h.2.2.2⟩
theorem cluster_Of.St_weak {w0 W:World} {ok1 ok2:Nat→Prop} {v:Value} {out:List S40} {A:Array Value} (h:cluster_Of.St w0 W (fun k=>(k≠w0.heap.size∧ok1 k)∧ok2 k) v out A):cluster_Of.St w0 W (fun k=>k≠w0.heap.size) v out A :=
 ⟨Kd.R_mono h.1 (fun _ hk=>hk.1.1),h.2.1,h.2.2.1,fun _ hk=>hk⟩
theorem cluster_Of.block_load {P:Program} {ops:Array Oper} {rest:List Oper} {o:Oper} {a:Act} {Q:Exit→Act→World→Prop} {W:World} (hgd:o.guard=none) (t:TypeId) (p:Operand) (ho:o.op= .load t p) {g e:Nat} {cs:Array Value} (hp:a.eval p= .pointer (some ⟨g,0,none⟩)) (hb:W.heap[g]?=some (.cells cs e (0,0))) (d:TypeDesc)
  (hu:P.underlying t=some d) (hd:(match d with| .struct _| .array _ _=>true|_=>false)=true) (hi:(P.info? t).map (·.size)=some cs.size) (hw:wpList P ops Q rest (a.put o.dst (.agg cs)) W):wpList P ops Q (o::rest) a W:=by
 refine agg_load hgd t p ho ⟨g,0,none⟩ hp cs.toList d hu hd (by rw [Array.length_toList];exact hi) (fun j v hj=>?_) hw
 have e:(⟨g,0,none⟩:Addr).add j=⟨g,j,none⟩:=by
  by_cases h0:j=0
  ·
   rw [h0];rfl
  ·
   simp [Addr.add,h0]
 rw [e,blk_cell hb j]
 simpa using hj
theorem cluster_Of.cells3 (a b c:Int): ∀ q ∈ (Value.agg #[.int .i64 a,.int .i64 b,.int .i64 c]).cells.toList,q.oneCell'=true:=fun q hq=>by
 have hq':q ∈ [Value.int .i64 a,.int .i64 b,.int .i64 c]:=hq
 simp only [List.mem_cons,List.not_mem_nil,or_false] at hq'
 rcases hq' with rfl|rfl|rfl <;> rfl
theorem cluster_Of.cells6 (a b c d e:Int) (f:Bool): ∀ q ∈ (Value.agg #[.int .i64 a,.int .i64 b,.int .i64 c,.int .i64 d,.int .i64 e,.bool f]).cells.toList,q.oneCell'=true:=fun q hq=>by
 have hq':q ∈ [Value.int .i64 a,.int .i64 b,.int .i64 c,.int .i64 d,.int .i64 e,.bool f]:=hq
 simp only [List.mem_cons,List.not_mem_nil,or_false] at hq'
 rcases hq' with rfl|rfl|rfl|rfl|rfl|rfl <;> rfl
theorem cluster_Of.cells8 (a b c d e:Int) (f:Bool) (g h:Int): ∀ q ∈ (Value.agg #[.int .i64 a,.int .i64 b,.int .i64 c,.int .i64 d,.int .i64 e,.bool f,.int .i64 g,.int .i64 h]).cells.toList,q.oneCell'=true:=fun q hq=>by
 have hq':q ∈ [Value.int .i64 a,.int .i64 b,.int .i64 c,.int .i64 d,.int .i64 e,.bool f,.int .i64 g,.int .i64 h]:=hq
 simp only [List.mem_cons,List.not_mem_nil,or_false] at hq'
 rcases hq' with rfl|rfl|rfl|rfl|rfl|rfl|rfl|rfl <;> rfl
def cluster_Of.cellsC (x:S40):List Value:=[.int .i64 x.f0,.int .i64 x.f1,.int .i64 x.f2,.int .i64 x.f3,.int .i64 x.f4,.int .i64 x.f5]
theorem cluster_Of.fld {W:World} {base g m cap:Nat} {ok:Nat→Prop} {xs:List S40} (h:Kd.R k40 40 W base ok (.slice (some ⟨g,0,none⟩) m cap) xs) (n:Nat) (hn:n < m) (x':S40) (j:Nat) (u:Value) (hj:j+1≤6)
  (hc:cluster_Of.cellsC x'=(cluster_Of.cellsC (xs.getD n z40)).take j++[u]++(cluster_Of.cellsC (xs.getD n z40)).drop (j+1)) :
  Kd.R k40 40 (W.setCell ⟨g,n * 6+j,none⟩ u) base ok (.slice (some ⟨g,0,none⟩) m cap) (xs.set n x')∧W.grownBy (W.setCell ⟨g,n * 6+j,none⟩ u) (some g):=by
 obtain ⟨c,hcl,hM,hcc,hfr⟩:=Kd.R_elem h z40 (n:Int) (by omega) (by omega)
 obtain rfl:=k40_openM hM
 have hx:([.int .i64 (xs.getD ((n:Int).toNat) z40).f0,.int .i64 (xs.getD ((n:Int).toNat) z40).f1,.int .i64 (xs.getD ((n:Int).toNat) z40).f2,.int .i64 (xs.getD ((n:Int).toNat) z40).f3,.int .i64 (xs.getD ((n:Int).toNat) z40).f4,.int .i64 (xs.getD ((n:Int).toNat) z40).f5]:List Value)=cluster_Of.cellsC (xs.getD n z40):=rfl
 rw [hx] at hcl hcc
 exact Kd.R_seg (d:=k40) h (n:Int) (by omega) (by omega) (j:=j) (seg:=[u]) (x':=x') (okp:=fun _=>False) hcl hcc hj (by show k40.M W base _ x' ((cluster_Of.cellsC (xs.getD n z40)).take j++[u]++(cluster_Of.cellsC (xs.getD n z40)).drop (j+1));rw [← hc];exact k40_mkM _ _ _ x') (fun _ hk=>hk.elim)
theorem cluster_Of.cell_at {W:World} {base g m cap:Nat} {ok:Nat→Prop} {xs:List S40} (h:Kd.R k40 40 W base ok (.slice (some ⟨g,0,none⟩) m cap) xs) (n:Nat) (hn:n < m) :
  (∀ j u,(cluster_Of.cellsC (xs.getD n z40))[j]?=some u→W.cell? ⟨g,n * 6+j,none⟩=some u)∧ ∀ j,W.frozen? ⟨g,n * 6+j,none⟩=false:=by
 obtain ⟨c,hcl,hM,hcc,hfr⟩:=Kd.R_elem h z40 (n:Int) (by omega) (by omega)
 obtain rfl:=k40_openM hM
 exact ⟨hcc,hfr⟩
theorem cluster_Of.St_drew {w0 W:World} {ok:Nat→Prop} {v:Value} {out:List S40} {A:Array Value} (h:cluster_Of.St w0 W ok v out A):cluster_Of.St w0 W.drew ok v out A :=
 cluster_Of.St_below h (below_drew (Below.refl _ _))
theorem cluster_Of.St_fld {w0 W:World} {ok:Nat→Prop} {g M cap:Nat} {out:List S40} {A:Array Value} (h:cluster_Of.St w0 W ok (.slice (some ⟨g,0,none⟩) M cap) out A) (n:Nat) (hn:n < M) (x':S40) (j:Nat) (u:Value) (hj:j+1≤6)
  (hc:cluster_Of.cellsC x'=(cluster_Of.cellsC (out.getD n z40)).take j++[u]++(cluster_Of.cellsC (out.getD n z40)).drop (j+1)) :
  cluster_Of.St w0 (W.setCell ⟨g,n * 6+j,none⟩ u) ok (.slice (some ⟨g,0,none⟩) M cap) (out.set n x') A:=by
 obtain ⟨h1,h2⟩:=cluster_Of.fld h.1 n hn x' j u hj hc
 exact ⟨h1,blk_grown h.2.1 h2 (Kd.R_away h.1 h.2.2.2),h.2.2.1.setCell (Kd.R_base h.1 g rfl) _,h.2.2.2⟩
theorem cluster_Of.get_set (out:List S40) (n:Nat) (x:S40) (hn:n < out.length):(out.set n x).getD n z40=x:=by
 rw [List.getD_eq_getElem?_getD,List.getElem?_set_self hn]
 rfl
set_option maxHeartbeats 8000000 in
theorem cluster_Of.calls (A0:Option Addr) (q0:Nat) (l0:List S36) (xs:List S40) (w:World) (hr0:Kd.C k36 w A0 l0.length l0) (hq0:l0.length≤q0) (h:cluster_Of.f l0=some xs) :
  Calls Try.prog 13 #[.slice A0 l0.length q0] w fun e w'=> ∃ v,e= .returned v∧Kd.R k40 40 w' w.heap.size (fun _=>True) v xs∧Below w.heap.size w w':=by
 have hn:l0.length≤9223372036854775807:=hr0.2.1
 have hu1:=Try.underlying36
 have hu2:=Try.underlying64
 have hu3:=Try.underlying62
 have hu4:=Try.underlying40
 have HR0:=Am hr0
 have HH:=Am h
 clear hr0 hq0 h
 have HB:=Am (Below.refl w.heap.size w)
 go_enter Try.func13,Try.ntmps13
 go_wp2
 have HS:=Am (show cluster_Of.St w (w.alloc (.cells #[.int .i64 0,.int .i64 0,.int .i64 0,.int .i64 0,.int .i64 0,.bool false,.int .i64 0,.int .i64 0] 64)) (fun k=>k≠w.heap.size) (.slice none 0 0) [] #[.int .i64 0,.int .i64 0,.int .i64 0,.int .i64 0,.int .i64 0,.bool false,.int .i64 0,.int .i64 0] from ⟨Kd.R_nil _ _ _ _ _,blk_new _ _,below_alloc HB.out _,fun _ hk=>hk⟩)
 go_loopg [3,11] l0.length (fun kq v3 v11 w'=> ∃ (i:Nat) (out:List S40) (a0 a1 a2 a3 a4:Int) (a5:Bool) (a6 a7:Int),v11= .int .i64 (i:Int)∧i≤l0.length∧l0.length - i≤kq∧Aside0 (cluster_Of.lp (l0.drop i) out a0 a1 a2 a3 a4 a5 a6 a7 i=some xs)∧Aside0 (cluster_Of.St w w' (fun k=>k≠w.heap.size) v3 out #[.int .i64 a0,.int .i64 a1,.int .i64 a2,.int .i64 a3,.int .i64 a4,.bool a5,.int .i64 a6,.int .i64 a7]))
 case atStart=>exact ⟨0,[],0,0,0,0,0,false,0,0,rfl,Nat.zero_le _,by omega,⟨by rw [List.drop_zero];exact HH.out⟩,HS⟩
 case round =>
  clear HS HB HH
  obtain ⟨i,out,a0,a1,a2,a3,a4,a5,a6,a7,rfl,hi,hq,HA,HS⟩:=hrel
  by_cases hlt:i < l0.length
  ·
   have H:=HA.out
   clear HA
   rw [List.drop_eq_getElem_cons hlt] at H
   have hrd:rd_T36 l0 (i:Int)=l0[i]:=by
    unfold rd_T36
    simp [List.getD_eq_getElem?_getD,hlt]
   rw [← hrd] at H
   obtain ⟨ad,e1,hx0,hx1,hx2⟩:=at_T36 HR0.out (i:Int) (by omega) (by omega)
   cases e1
   simp only [Int.toNat_natCast] at hx0 hx1 hx2
   have hb0:=HS.out.2.2.1
   replace hx0:=(hb0.cell (World.block_lt_of_cell? w _ hx0)).trans hx0
   replace hx1:=(hb0.cell (World.block_lt_of_cell? w _ hx1)).trans hx1
   replace hx2:=(hb0.cell (World.block_lt_of_cell? w _ hx2)).trans hx2
   clear hb0 hrd
   generalize rd_T36 l0 (i:Int)=r at *
   obtain ⟨r0,r1,r2⟩:=r
   simp only [cluster_Of.lp] at H
   obtain ⟨b,hsee,H⟩:=Option.bind_eq_some_iff.1 H
   obtain ⟨b0,b1,b2,b3,b4,b5⟩:=b
   obtain ⟨nn,hthen,H⟩:=Option.bind_eq_some_iff.1 H
   obtain ⟨n0,n1,n2,n3,n4,n5,n6,n7⟩:=nn
   have HSEE:=Am hsee
   have HT:=Am hthen
   clear hsee hthen
   dsimp only at H
   obtain ⟨ii,hii⟩: ∃ z:Int,z=(i:Int):=⟨_,rfl⟩
   have hi0:0≤ii:=by omega
   have hi1:ii < (l0.length:Int):=by omega
   rw [← hii] at H ⊢
   dsimp only at hx0 hx1 hx2
   have HII:=Am hii
   have hin:(i:Nat)=ii.toNat:=by omega
   rw [hin] at hx0 hx1 hx2
   clear hii hin
   have hi0e:=eq_true hi0
   have hi1e:=eq_true hi1
   by_cases hz:i=0
   ·
    rw [if_pos hz] at H
    have hzb:(ii==0)=true:=beq_iff_eq.2 (by have:=HII.out;omega)
    by_cases hL:out.length < 2932031007402
    ·
     rw [if_pos hL] at H
     have HL:=Am hL
     clear hL hz
     obtain ⟨c,hf,H⟩:=Option.bind_eq_some_iff.1 H
     obtain ⟨c0,c1,c2,c3,c4,c5⟩:=c
     have HF:=Am hf
     have HH:=Am H
     clear hf H
     go_wp2_with (first|((with_reducible refine gate_dst (N:=6) rfl ?_);refine alloc_event rfl 36 rfl 3 TK ?_;intro g6 w1 cs6 hcs hg hb hbel hsz;have n0_:=Am (cluster_Of.St_alloc HS.out hbel hg);have G6:=Am (show w.heap.size < g6 by rw [hg];exact blk_lt HS.out.2.1);have K6:=Am hb;have C6:=Am hcs;clear HS hcs hg hb hbel hsz;have HS:=n0_;clear n0_)|((with_reducible refine gate_store (t:=36) (p:=6) (v:= .tmp 15) rfl ?_);refine block_store rfl rfl 36 (.tmp 6) (.tmp 15) rfl rfl (.agg #[.int .i64 r0,.int .i64 r1,.int .i64 r2]) rfl K6.out (by rw [C6.out];rfl) (by rw [C6.out];kernel_rfl) (cluster_Of.cells3 r0 r1 r2) ?_;intro w2 hb hk hs hB;replace HS:=Am (cluster_Of.St_put HS.out hk hB G6.out (fun k hk=>hk.2));replace K6:=Am hb;clear C6 hb hk hs hB)|((with_reducible refine gate_dst (N:=16) rfl ?_);refine cluster_Of.block_load rfl 36 (.tmp 6) rfl rfl K6.out _ Try.underlying36 rfl TK ?_)|(go_at_call 25;(with_reducible refine (cluster_see.calls r0 r1 r2 b0 b1 b2 b3 b4 b5 _ HSEE.out).mono ?_);rintro e w3 ⟨rfl,hb⟩;replace HS:=Am (cluster_Of.St_below HS.out hb);replace K6:=Am (blk_below K6.out hb);clear hb)|((with_reducible refine gate_dst (N:=7) rfl ?_);refine alloc_event rfl 62 rfl 6 TK ?_;intro g7 w4 cs7 hcs hg hb hbel hsz;have n0_:=Am (cluster_Of.St_alloc HS.out hbel hg);have G7:=Am (show w.heap.size < g7∧g6 < g7 by rw [hg];exact ⟨blk_lt HS.out.2.1,blk_lt K6.out⟩);have n1_:=Am (blk_below K6.out hbel);have K7:=Am hb;have C7:=Am hcs;clear HS K6 hcs hg hb hbel hsz;have HS:=n0_;have K6:=n1_;clear n0_ n1_)|((with_reducible refine gate_store (t:=62) (p:=7) (v:= .tmp 17) rfl ?_);refine block_store rfl rfl 62 (.tmp 7) (.tmp 17) rfl rfl (.agg #[.int .i64 b0,.int .i64 b1,.int .i64 b2,.int .i64 b3,.int .i64 b4,.bool b5]) rfl K7.out (by rw [C7.out];rfl) (by rw [C7.out];kernel_rfl) (cluster_Of.cells6 b0 b1 b2 b3 b4 b5) ?_;intro w5 hb hk hs hB;replace HS:=Am (cluster_Of.St_put HS.out hk hB G7.out.1 (fun k hk=>hk.2));replace K7:=Am hb;replace K6:=Am ((hk g6 (by have:=G7.out.2;omega)).trans K6.out);clear C7 hb hk hs hB)|((with_reducible refine gate_dst (N:=27) rfl ?_);refine cluster_Of.block_load rfl 62 (.tmp 7) rfl rfl K7.out _ Try.underlying62 rfl TK ?_)|(go_at_call 27;(with_reducible refine (cluster_first.calls b0 b1 b2 b3 b4 b5 ii c0 c1 c2 c3 c4 c5 _ HF.out).mono ?_);rintro e w7 ⟨rfl,hb⟩;replace HS:=Am (cluster_Of.St_below HS.out hb);replace K6:=Am (blk_below K6.out hb);replace K7:=Am (blk_below K7.out hb);clear hb)|((with_reducible refine gate_builtin (b:= .append) (xs:= #[.tmp 26,.tmp 30]) rfl ?_);at_builtin;refine Kd.R_append k40 (w0:=w) w.heap.size rfl (.tmp 26) (.tmp 30) 37 40 (.agg #[(.int .i64 0),(.int .i64 0),(.int .i64 0),(.int .i64 0),(.int .i64 0),(.int .i64 0)]) 48 rfl Try.underlying37 info40 rfl (by decide) (by omega) _ out (⟨c0,c1,c2,c3,c4,c5⟩:S40) [.int .i64 c0,.int .i64 c1,.int .i64 c2,.int .i64 c3,.int .i64 c4,.int .i64 c5] (fun k=>(k≠w.heap.size∧k≠g6)∧k≠g7) (fun _=>False) rfl rfl (k40_mkM _ _ _ (⟨c0,c1,c2,c3,c4,c5⟩:S40)) (fun _ hk=>hk.elim) (fun k hk=>⟨⟨by have:=blk_lt HS.out.2.1;omega,by have:=blk_lt K6.out;omega⟩,by have:=blk_lt K7.out;omega⟩) HS.out.1 HS.out.2.2.1 HS.out.2.2.1.size (by have:=HL.out;omega) ?_;intro v8 w8 ho hb hg hat;replace K6:=Am (blk_grown K6.out hg (Kd.R_away HS.out.1 (fun k hk=>hk.1.2)));replace K7:=Am (blk_grown K7.out hg (Kd.R_away HS.out.1 (fun k hk=>hk.2)));replace HS:=Am (cluster_Of.St_app HS.out ho hb hg);clear ho hb hg hat)|((with_reducible refine gate_dst (N:=32) rfl ?_);refine cluster_Of.block_load rfl 64 (.tmp 4) rfl rfl HS.out.2.1 _ Try.underlying64 rfl TK ?_)|((with_reducible refine gate_dst (N:=33) rfl ?_);refine cluster_Of.block_load rfl 62 (.tmp 7) rfl rfl K7.out _ Try.underlying62 rfl TK ?_)|(go_at_call 28;(with_reducible refine (cluster_seen_then.calls a0 a1 a2 a3 a4 a5 a6 a7 b0 b1 b2 b3 b4 b5 n0 n1 n2 n3 n4 n5 n6 n7 _ HT.out).mono ?_);rintro e w9 ⟨rfl,hb⟩;replace HS:=Am (cluster_Of.St_below HS.out hb);replace K6:=Am (blk_below K6.out hb);replace K7:=Am (blk_below K7.out hb);clear hb)|((with_reducible refine gate_store (t:=64) (p:=4) (v:= .tmp 34) rfl ?_);refine block_store rfl rfl 64 (.tmp 4) (.tmp 34) rfl rfl (.agg #[.int .i64 n0,.int .i64 n1,.int .i64 n2,.int .i64 n3,.int .i64 n4,.bool n5,.int .i64 n6,.int .i64 n7]) rfl HS.out.2.1 rfl TK (cluster_Of.cells8 n0 n1 n2 n3 n4 n5 n6 n7) ?_;intro w10 hb hk hs hB;replace HS:=Am (cluster_Of.St_putA HS.out hk hB hb);clear hb hk hs hB))
     go_roundg (l0.length - (i+1))
     case measure=>omega
     case rel=>exact ⟨i+1,_,n0,n1,n2,n3,n4,n5,n6,n7,by rw [HII.out];go_num,by omega,Nat.le_refl _,HH,⟨cluster_Of.St_weak HS.out⟩⟩
    ·
     rw [if_neg hL] at H
     cases H
   ·
    rw [if_neg hz] at H
    have hzb:(ii==0)=false:=beq_eq_false_iff_ne.2 (by have:=HII.out;omega)
    obtain ⟨jj,hj,H⟩:=Option.bind_eq_some_iff.1 H
    have HJ:=Am hj
    clear hj
    cases jj with
    | false =>
     rw [if_neg (by decide)] at H
     by_cases hL:out.length < 2932031007402
     ·
      rw [if_pos hL] at H
      have HL:=Am hL
      clear hL hz
      obtain ⟨c,hf,H⟩:=Option.bind_eq_some_iff.1 H
      obtain ⟨c0,c1,c2,c3,c4,c5⟩:=c
      have HF:=Am hf
      have HH:=Am H
      clear hf H
      go_wp2_with (first|((with_reducible refine gate_dst (N:=6) rfl ?_);refine alloc_event rfl 36 rfl 3 TK ?_;intro g6 w1 cs6 hcs hg hb hbel hsz;have n0_:=Am (cluster_Of.St_alloc HS.out hbel hg);have G6:=Am (show w.heap.size < g6 by rw [hg];exact blk_lt HS.out.2.1);have K6:=Am hb;have C6:=Am hcs;clear HS hcs hg hb hbel hsz;have HS:=n0_;clear n0_)|((with_reducible refine gate_store (t:=36) (p:=6) (v:= .tmp 15) rfl ?_);refine block_store rfl rfl 36 (.tmp 6) (.tmp 15) rfl rfl (.agg #[.int .i64 r0,.int .i64 r1,.int .i64 r2]) rfl K6.out (by rw [C6.out];rfl) (by rw [C6.out];kernel_rfl) (cluster_Of.cells3 r0 r1 r2) ?_;intro w2 hb hk hs hB;replace HS:=Am (cluster_Of.St_put HS.out hk hB G6.out (fun k hk=>hk.2));replace K6:=Am hb;clear C6 hb hk hs hB)|((with_reducible refine gate_dst (N:=16) rfl ?_);refine cluster_Of.block_load rfl 36 (.tmp 6) rfl rfl K6.out _ Try.underlying36 rfl TK ?_)|(go_at_call 25;(with_reducible refine (cluster_see.calls r0 r1 r2 b0 b1 b2 b3 b4 b5 _ HSEE.out).mono ?_);rintro e w3 ⟨rfl,hb⟩;replace HS:=Am (cluster_Of.St_below HS.out hb);replace K6:=Am (blk_below K6.out hb);clear hb)|((with_reducible refine gate_dst (N:=7) rfl ?_);refine alloc_event rfl 62 rfl 6 TK ?_;intro g7 w4 cs7 hcs hg hb hbel hsz;have n0_:=Am (cluster_Of.St_alloc HS.out hbel hg);have G7:=Am (show w.heap.size < g7∧g6 < g7 by rw [hg];exact ⟨blk_lt HS.out.2.1,blk_lt K6.out⟩);have n1_:=Am (blk_below K6.out hbel);have K7:=Am hb;have C7:=Am hcs;clear HS K6 hcs hg hb hbel hsz;have HS:=n0_;have K6:=n1_;clear n0_ n1_)|((with_reducible refine gate_store (t:=62) (p:=7) (v:= .tmp 17) rfl ?_);refine block_store rfl rfl 62 (.tmp 7) (.tmp 17) rfl rfl (.agg #[.int .i64 b0,.int .i64 b1,.int .i64 b2,.int .i64 b3,.int .i64 b4,.bool b5]) rfl K7.out (by rw [C7.out];rfl) (by rw [C7.out];kernel_rfl) (cluster_Of.cells6 b0 b1 b2 b3 b4 b5) ?_;intro w5 hb hk hs hB;replace HS:=Am (cluster_Of.St_put HS.out hk hB G7.out.1 (fun k hk=>hk.2));replace K7:=Am hb;replace K6:=Am ((hk g6 (by have:=G7.out.2;omega)).trans K6.out);clear C7 hb hk hs hB;have ca0:=(blk_cell HS.out.2.1 0).trans rfl;have ca1:=(blk_cell HS.out.2.1 1).trans rfl;have ca2:=(blk_cell HS.out.2.1 2).trans rfl;have ca3:=(blk_cell HS.out.2.1 3).trans rfl;have ca4:=(blk_cell HS.out.2.1 4).trans rfl;have ca5:=(blk_cell HS.out.2.1 5).trans rfl;have ca6:=(blk_cell HS.out.2.1 6).trans rfl;have ca7:=(blk_cell HS.out.2.1 7).trans rfl;have cb0:=(blk_cell K7.out 0).trans rfl;have cb1:=(blk_cell K7.out 1).trans rfl;have cb2:=(blk_cell K7.out 2).trans rfl;have cb3:=(blk_cell K7.out 3).trans rfl;have cb4:=(blk_cell K7.out 4).trans rfl;have cb5:=(blk_cell K7.out 5).trans rfl)|(go_at_call 26;(with_reducible refine (cluster_seen_joins.calls a0 a1 a2 a3 a4 a5 a6 a7 b0 b1 b2 b3 b4 b5 false _ HJ.out).mono ?_);rintro e w6 ⟨rfl,hb⟩;replace HS:=Am (cluster_Of.St_below HS.out hb);replace K6:=Am (blk_below K6.out hb);replace K7:=Am (blk_below K7.out hb);clear hb;clear ca0 ca1 ca2 ca3 ca4 ca5 ca6 ca7 cb0 cb1 cb2 cb3 cb4 cb5)|((with_reducible refine gate_dst (N:=27) rfl ?_);refine cluster_Of.block_load rfl 62 (.tmp 7) rfl rfl K7.out _ Try.underlying62 rfl TK ?_)|(go_at_call 27;(with_reducible refine (cluster_first.calls b0 b1 b2 b3 b4 b5 ii c0 c1 c2 c3 c4 c5 _ HF.out).mono ?_);rintro e w7 ⟨rfl,hb⟩;replace HS:=Am (cluster_Of.St_below HS.out hb);replace K6:=Am (blk_below K6.out hb);replace K7:=Am (blk_below K7.out hb);clear hb)|((with_reducible refine gate_builtin (b:= .append) (xs:= #[.tmp 26,.tmp 30]) rfl ?_);at_builtin;refine Kd.R_append k40 (w0:=w) w.heap.size rfl (.tmp 26) (.tmp 30) 37 40 (.agg #[(.int .i64 0),(.int .i64 0),(.int .i64 0),(.int .i64 0),(.int .i64 0),(.int .i64 0)]) 48 rfl Try.underlying37 info40 rfl (by decide) (by omega) _ out (⟨c0,c1,c2,c3,c4,c5⟩:S40) [.int .i64 c0,.int .i64 c1,.int .i64 c2,.int .i64 c3,.int .i64 c4,.int .i64 c5] (fun k=>(k≠w.heap.size∧k≠g6)∧k≠g7) (fun _=>False) rfl rfl (k40_mkM _ _ _ (⟨c0,c1,c2,c3,c4,c5⟩:S40)) (fun _ hk=>hk.elim) (fun k hk=>⟨⟨by have:=blk_lt HS.out.2.1;omega,by have:=blk_lt K6.out;omega⟩,by have:=blk_lt K7.out;omega⟩) HS.out.1 HS.out.2.2.1 HS.out.2.2.1.size (by have:=HL.out;omega) ?_;intro v8 w8 ho hb hg hat;replace K6:=Am (blk_grown K6.out hg (Kd.R_away HS.out.1 (fun k hk=>hk.1.2)));replace K7:=Am (blk_grown K7.out hg (Kd.R_away HS.out.1 (fun k hk=>hk.2)));replace HS:=Am (cluster_Of.St_app HS.out ho hb hg);clear ho hb hg hat)|((with_reducible refine gate_dst (N:=32) rfl ?_);refine cluster_Of.block_load rfl 64 (.tmp 4) rfl rfl HS.out.2.1 _ Try.underlying64 rfl TK ?_)|((with_reducible refine gate_dst (N:=33) rfl ?_);refine cluster_Of.block_load rfl 62 (.tmp 7) rfl rfl K7.out _ Try.underlying62 rfl TK ?_)|(go_at_call 28;(with_reducible refine (cluster_seen_then.calls a0 a1 a2 a3 a4 a5 a6 a7 b0 b1 b2 b3 b4 b5 n0 n1 n2 n3 n4 n5 n6 n7 _ HT.out).mono ?_);rintro e w9 ⟨rfl,hb⟩;replace HS:=Am (cluster_Of.St_below HS.out hb);replace K6:=Am (blk_below K6.out hb);replace K7:=Am (blk_below K7.out hb);clear hb)|((with_reducible refine gate_store (t:=64) (p:=4) (v:= .tmp 34) rfl ?_);refine block_store rfl rfl 64 (.tmp 4) (.tmp 34) rfl rfl (.agg #[.int .i64 n0,.int .i64 n1,.int .i64 n2,.int .i64 n3,.int .i64 n4,.bool n5,.int .i64 n6,.int .i64 n7]) rfl HS.out.2.1 rfl TK (cluster_Of.cells8 n0 n1 n2 n3 n4 n5 n6 n7) ?_;intro w10 hb hk hs hB;replace HS:=Am (cluster_Of.St_putA HS.out hk hB hb);clear hb hk hs hB))
      go_roundg (l0.length - (i+1))
      case measure=>omega
      case rel=>exact ⟨i+1,_,n0,n1,n2,n3,n4,n5,n6,n7,by rw [HII.out];go_num,by omega,Nat.le_refl _,HH,⟨cluster_Of.St_weak HS.out⟩⟩
     ·
      rw [if_neg hL] at H
      cases H
    | true =>
     rw [if_pos rfl] at H
     by_cases hp:0 < out.length
     ·
      rw [if_pos hp] at H
      obtain ⟨m,hm⟩: ∃ m,out.length=m+1:=⟨out.length - 1,by omega⟩
      obtain ⟨g3,q3,rfl,hgb,hgl,hty⟩:=Kd.R_form HS.out.1 hp
      clear hgb hgl hty
      rw [hm] at H HS ⊢
      rw [Nat.add_sub_cancel] at H
      have HM:=Am hm
      have HH:=Am H
      clear H hm hp hz
      have hwr:IntKind.i64.wrap (m:Int)=(m:Int):=by have:=(Kd.R_reads' HS.out.1).2.2.2.1;have:=HM.out;rw [IntKind.wrap_i64];omega
      go_upto_region 11 with (first|((with_reducible refine gate_dst (N:=6) rfl ?_);refine alloc_event rfl 36 rfl 3 TK ?_;intro g6 w1 cs6 hcs hg hb hbel hsz;have n0_:=Am (cluster_Of.St_alloc HS.out hbel hg);have G6:=Am (show w.heap.size < g6 by rw [hg];exact blk_lt HS.out.2.1);have K6:=Am hb;have C6:=Am hcs;clear HS hcs hg hb hbel hsz;have HS:=n0_;clear n0_)|((with_reducible refine gate_store (t:=36) (p:=6) (v:= .tmp 15) rfl ?_);refine block_store rfl rfl 36 (.tmp 6) (.tmp 15) rfl rfl (.agg #[.int .i64 r0,.int .i64 r1,.int .i64 r2]) rfl K6.out (by rw [C6.out];rfl) (by rw [C6.out];kernel_rfl) (cluster_Of.cells3 r0 r1 r2) ?_;intro w2 hb hk hs hB;replace HS:=Am (cluster_Of.St_put HS.out hk hB G6.out (fun k hk=>hk.2));replace K6:=Am hb;clear C6 hb hk hs hB)|((with_reducible refine gate_dst (N:=16) rfl ?_);refine cluster_Of.block_load rfl 36 (.tmp 6) rfl rfl K6.out _ Try.underlying36 rfl TK ?_)|(go_at_call 25;(with_reducible refine (cluster_see.calls r0 r1 r2 b0 b1 b2 b3 b4 b5 _ HSEE.out).mono ?_);rintro e w3 ⟨rfl,hb⟩;replace HS:=Am (cluster_Of.St_below HS.out hb);replace K6:=Am (blk_below K6.out hb);clear hb)|((with_reducible refine gate_dst (N:=7) rfl ?_);refine alloc_event rfl 62 rfl 6 TK ?_;intro g7 w4 cs7 hcs hg hb hbel hsz;have n0_:=Am (cluster_Of.St_alloc HS.out hbel hg);have G7:=Am (show w.heap.size < g7∧g6 < g7 by rw [hg];exact ⟨blk_lt HS.out.2.1,blk_lt K6.out⟩);have n1_:=Am (blk_below K6.out hbel);have K7:=Am hb;have C7:=Am hcs;clear HS K6 hcs hg hb hbel hsz;have HS:=n0_;have K6:=n1_;clear n0_ n1_)|((with_reducible refine gate_store (t:=62) (p:=7) (v:= .tmp 17) rfl ?_);refine block_store rfl rfl 62 (.tmp 7) (.tmp 17) rfl rfl (.agg #[.int .i64 b0,.int .i64 b1,.int .i64 b2,.int .i64 b3,.int .i64 b4,.bool b5]) rfl K7.out (by rw [C7.out];rfl) (by rw [C7.out];kernel_rfl) (cluster_Of.cells6 b0 b1 b2 b3 b4 b5) ?_;intro w5 hb hk hs hB;replace HS:=Am (cluster_Of.St_put HS.out hk hB G7.out.1 (fun k hk=>hk.2));replace K7:=Am hb;replace K6:=Am ((hk g6 (by have:=G7.out.2;omega)).trans K6.out);clear C7 hb hk hs hB;have ca0:=(blk_cell HS.out.2.1 0).trans rfl;have ca1:=(blk_cell HS.out.2.1 1).trans rfl;have ca2:=(blk_cell HS.out.2.1 2).trans rfl;have ca3:=(blk_cell HS.out.2.1 3).trans rfl;have ca4:=(blk_cell HS.out.2.1 4).trans rfl;have ca5:=(blk_cell HS.out.2.1 5).trans rfl;have ca6:=(blk_cell HS.out.2.1 6).trans rfl;have ca7:=(blk_cell HS.out.2.1 7).trans rfl;have cb0:=(blk_cell K7.out 0).trans rfl;have cb1:=(blk_cell K7.out 1).trans rfl;have cb2:=(blk_cell K7.out 2).trans rfl;have cb3:=(blk_cell K7.out 3).trans rfl;have cb4:=(blk_cell K7.out 4).trans rfl;have cb5:=(blk_cell K7.out 5).trans rfl)|(go_at_call 26;(with_reducible refine (cluster_seen_joins.calls a0 a1 a2 a3 a4 a5 a6 a7 b0 b1 b2 b3 b4 b5 true _ HJ.out).mono ?_);rintro e w6 ⟨rfl,hb⟩;replace HS:=Am (cluster_Of.St_below HS.out hb);replace K6:=Am (blk_below K6.out hb);replace K7:=Am (blk_below K7.out hb);clear hb;clear ca0 ca1 ca2 ca3 ca4 ca5 ca6 ca7 cb0 cb1 cb2 cb3 cb4 cb5))
      obtain ⟨hcl,hfr⟩:=cluster_Of.cell_at HS.out.1 m (by omega)
      have hf1:=hfr 1
      have hf3:=hfr 3
      have hc1:=hcl 1 _ rfl
      have hc3:=hcl 3 _ rfl
      have h61:=(blk_cell K6.out 1).trans rfl
      clear hcl hfr
      generalize hc:out.getD m z40=c at *
      obtain ⟨c0,c1,c2,c3,c4,c5⟩:=c
      have HC:=Am hc
      clear hc
      dsimp only at hc1 hc3
      (try simp only [Act.put,List.setIfInBounds_toArray,List.set_cons_zero,List.set_cons_succ])
      refine start_ (n:=17) (S:=fun w'=>w'.cell? ⟨g3,m * 6+1,none⟩=some (.int .i64 c1)∧w'.cell? ⟨g6,1,none⟩=some (.int .i64 r1)) (ds:=[13,16]) (bl 17 0) TK rfl rfl ⟨hc1,h61⟩ (fun hHeld=>?_)
      refine pureS (i:=0) (N:=some 40) (bl 17 1) rfl rfl TK ?_
      refine pureS (i:=1) (N:=some 41) (bl 17 3) rfl rfl TK ?_
      refine pureS (i:=2) (N:=some 42) (bl 17 7) rfl rfl TK ?_
      refine pureS (i:=3) (N:=some 43) (bl 17 15) rfl rfl TK ?_
      refine pureS (i:=4) (N:=some 44) (bl 17 31) rfl rfl TK ?_
      refine pureS (i:=6) (N:=some 46) (bl 17 95) rfl rfl TK ?_
      refine pureS (i:=9) (N:=some 49) (bl 17 607) rfl rfl TK ?_
      refine pureS (i:=10) (N:=some 50) (bl 17 1631) rfl rfl TK ?_
      refine take_ (i:=5) (N:=some 45) (v:=?_) (a':=?_) (bl 17 1663) rfl rfl TK (fun _ _ _ h=>h) (Or.inl ⟨by rfl,?_⟩) hHeld ?_ ?_
      rotate_left
      ·
       rintro w' ⟨s0,s1⟩
       go_simp
       with_reducible rfl
      rotate_left
      ·
       simp only [PT]
       rfl
      refine take_ (i:=7) (N:=some 47) (v:=?_) (a':=?_) (bl 17 1791) rfl rfl TK (fun _ _ _ h=>h) (Or.inl ⟨by rfl,?_⟩) hHeld ?_ ?_
      rotate_left
      ·
       rintro w' ⟨s0,s1⟩
       go_simp
       with_reducible rfl
      rotate_left
      ·
       simp only [PT]
       rfl
      refine pureS (i:=8) (N:=some 48) (bl 17 2047) rfl rfl TK ?_
      refine pureS (i:=11) (N:=some 51) (bl 17 4095) rfl rfl TK ?_
      refine pureS (i:=12) (N:=some 52) (bl 17 8191) rfl rfl TK ?_
      refine last_ (i:=13) (N:=none) (bl 17 16383) rfl rfl TK (by decide) (fun K hK=>?_)
      refine skip_ (w1:=?_) (by rfl) rfl ?_ ?_
      rotate_left
      ·
       go_simp
       rfl
      refine hK.out _ _ ?_
      clear hK K
      refine pureS (i:=14) (N:=some 53) (bl 17 32767) rfl rfl TK ?_
      refine pureS (i:=15) (N:=some 54) (bl 17 65535) rfl rfl TK ?_
      refine last_ (i:=16) (N:=none) (bl 17 131071) rfl rfl TK (by decide) (fun K hK=>?_)
      refine skip_ (w1:=?_) (by rfl) rfl ?_ ?_
      rotate_left
      ·
       go_simp
       rfl
      refine hK.out _ _ ?_
      clear hK K
      refine done_ TK ?_
      have HW:=Am (show wrap64 (ii+1)=ii+1 by unfold wrap64;omega)
      have HC2:=Am (cluster_Of.get_set out m (⟨c0,wrap64 (c1+r1),c2,c3,c4,c5⟩:S40) (by have:=HM.out;omega))
      have n0_:=cluster_Of.St_fld HS.out m (by omega) (⟨c0,wrap64 (c1+r1),c2,c3,c4,c5⟩:S40) 1 (.int .i64 (wrap64 (c1+r1))) (by omega) (by rw [HC.out];rfl)
      have n1_:=cluster_Of.St_fld n0_ m (by omega) (⟨c0,wrap64 (c1+r1),c2,wrap64 (ii+1),c4,c5⟩:S40) 3 (.int .i64 (wrap64 (ii+1))) (by omega) (by rw [HC2.out];rfl)
      rw [List.set_set] at n1_
      have n2_:=Am (cluster_Of.St_drew n1_)
      have hne6:g6≠g3:=fun e=>(HS.out.1.1 g3 rfl).1.2 e.symm
      have hne7:g7≠g3:=fun e=>(HS.out.1.1 g3 rfl).2 e.symm
      have n3_:=Am (blk_drew (blk_far (blk_far K6.out (p:=⟨g3,m * 6+1,none⟩) hne6 (.int .i64 (wrap64 (c1+r1)))) (p:=⟨g3,m * 6+3,none⟩) hne6 (.int .i64 (wrap64 (ii+1)))))
      have n4_:=Am (blk_drew (blk_far (blk_far K7.out (p:=⟨g3,m * 6+1,none⟩) hne7 (.int .i64 (wrap64 (c1+r1)))) (p:=⟨g3,m * 6+3,none⟩) hne7 (.int .i64 (wrap64 (ii+1)))))
      have HNE:=Am (And.intro hne6 hne7)
      clear HS K6 K7 n0_ n1_ hne6 hne7 hf1 hf3 hc1 hc3 h61 HC2
      have HS:=n2_
      have K6:=n3_
      have K7:=n4_
      clear n2_ n3_ n4_
      generalize ((w6.setCell {block:=g3,off:=m * 6+1} (Value.int IntKind.i64 (wrap64 (c1+r1)))).setCell {block:=g3,off:=m * 6+3} (Value.int IntKind.i64 (wrap64 (ii+1)))).drew=w7 at *
      have HC2:=Am (cluster_Of.get_set out m (⟨c0,wrap64 (c1+r1),c2,wrap64 (ii+1),c4,c5⟩:S40) (by have:=HM.out;omega))
      have ca3:=(blk_cell HS.out.2.1 3).trans rfl
      have ca5:=(blk_cell HS.out.2.1 5).trans rfl
      have cr2:=(blk_cell K6.out 2).trans rfl
      have cb4:=(blk_cell K7.out 4).trans rfl
      obtain ⟨hcl,hfr⟩:=cluster_Of.cell_at HS.out.1 m (by omega)
      rw [HC2.out] at hcl
      have hf4:=hfr 4
      have hc4:=hcl 4 _ rfl
      clear hcl hfr
      cases h3b:(a3==1) with
      | true =>
       have hg:=HH.out
       rw [show cluster_Of.grow (⟨c0,c1,c2,c3,c4,c5⟩:S40) r1 r2 a3 a5 b4 (ii+1)=(⟨c0,wrap64 (c1+r1),c2,wrap64 (ii+1),c4,c5⟩:S40) from by unfold cluster_Of.grow;rw [h3b,if_pos rfl];rw [HW.out]] at hg
       replace HH:=Am hg
       clear hg
       go_wp2_with (first|((with_reducible refine gate_dst (N:=82) rfl ?_);refine cluster_Of.block_load rfl 64 (.tmp 4) rfl rfl HS.out.2.1 _ Try.underlying64 rfl TK ?_)|((with_reducible refine gate_dst (N:=83) rfl ?_);refine cluster_Of.block_load rfl 62 (.tmp 7) rfl rfl K7.out _ Try.underlying62 rfl TK ?_)|(go_at_call 28;(with_reducible refine (cluster_seen_then.calls a0 a1 a2 a3 a4 _ a6 a7 b0 b1 b2 b3 b4 b5 n0 n1 n2 n3 n4 n5 n6 n7 _ HT.out).mono ?_);rintro e w9 ⟨rfl,hb⟩;have n0_:=Am (cluster_Of.St_below HS.out hb);have n2_:=Am (blk_below K7.out hb);clear HS hb K7;have HS:=n0_;have K7:=n2_;clear n0_ n2_)|((with_reducible refine gate_store (t:=64) (p:=4) (v:= .tmp 84) rfl ?_);refine block_store rfl rfl 64 (.tmp 4) (.tmp 84) rfl rfl (.agg #[.int .i64 n0,.int .i64 n1,.int .i64 n2,.int .i64 n3,.int .i64 n4,.bool n5,.int .i64 n6,.int .i64 n7]) rfl HS.out.2.1 rfl TK (cluster_Of.cells8 n0 n1 n2 n3 n4 n5 n6 n7) ?_;intro w10 hb hk hs hB;replace HS:=Am (cluster_Of.St_putA HS.out hk hB hb);clear hb hk hs hB))
       go_roundg (l0.length - (i+1))
       case measure=>omega
       case rel=>exact ⟨i+1,_,n0,n1,n2,n3,n4,n5,n6,n7,by rw [HII.out];go_num,by omega,Nat.le_refl _,HH,⟨cluster_Of.St_weak HS.out⟩⟩
      | false =>
       cases hr2:(r2==65039) with
       | true =>
        cases a5 with
        | true =>
         have hg:=HH.out
         rw [show cluster_Of.grow (⟨c0,c1,c2,c3,c4,c5⟩:S40) r1 r2 a3 true b4 (ii+1)=(⟨c0,wrap64 (c1+r1),c2,wrap64 (ii+1),2,c5⟩:S40) from by unfold cluster_Of.grow;rw [h3b,hr2,if_neg (by decide),if_pos rfl,if_pos rfl];rw [HW.out]] at hg
         replace HH:=Am hg
         clear hg
         go_upto_region 16 with (fail)
         (try simp only [Act.put,List.setIfInBounds_toArray,List.set_cons_zero,List.set_cons_succ])
         have n1_:=cluster_Of.St_fld HS.out m (by omega) (⟨c0,wrap64 (c1+r1),c2,wrap64 (ii+1),2,c5⟩:S40) 4 (.int .i64 (2)) (by omega) (by rw [HC2.out];rfl)
         rw [List.set_set] at n1_
         have n2_:=Am (n1_)
         have n4_:=Am (blk_far K7.out (p:=⟨g3,m * 6+4,none⟩) HNE.out.2 (.int .i64 (2)))
         clear HS K6 K7 n1_ hf4 hc4 ca3 ca5 cr2 cb4
         have HS:=n2_
         have K7:=n4_
         clear n2_ n4_
         generalize w7.setCell {block:=g3,off:=m * 6+4} (Value.int IntKind.i64 2)=w8 at *
         go_wp2_with (first|((with_reducible refine gate_dst (N:=82) rfl ?_);refine cluster_Of.block_load rfl 64 (.tmp 4) rfl rfl HS.out.2.1 _ Try.underlying64 rfl TK ?_)|((with_reducible refine gate_dst (N:=83) rfl ?_);refine cluster_Of.block_load rfl 62 (.tmp 7) rfl rfl K7.out _ Try.underlying62 rfl TK ?_)|(go_at_call 28;(with_reducible refine (cluster_seen_then.calls a0 a1 a2 a3 a4 _ a6 a7 b0 b1 b2 b3 b4 b5 n0 n1 n2 n3 n4 n5 n6 n7 _ HT.out).mono ?_);rintro e w9 ⟨rfl,hb⟩;have n0_:=Am (cluster_Of.St_below HS.out hb);have n2_:=Am (blk_below K7.out hb);clear HS hb K7;have HS:=n0_;have K7:=n2_;clear n0_ n2_)|((with_reducible refine gate_store (t:=64) (p:=4) (v:= .tmp 84) rfl ?_);refine block_store rfl rfl 64 (.tmp 4) (.tmp 84) rfl rfl (.agg #[.int .i64 n0,.int .i64 n1,.int .i64 n2,.int .i64 n3,.int .i64 n4,.bool n5,.int .i64 n6,.int .i64 n7]) rfl HS.out.2.1 rfl TK (cluster_Of.cells8 n0 n1 n2 n3 n4 n5 n6 n7) ?_;intro w10 hb hk hs hB;replace HS:=Am (cluster_Of.St_putA HS.out hk hB hb);clear hb hk hs hB))
         go_roundg (l0.length - (i+1))
         case measure=>omega
         case rel=>exact ⟨i+1,_,n0,n1,n2,n3,n4,n5,n6,n7,by rw [HII.out];go_num,by omega,Nat.le_refl _,HH,⟨cluster_Of.St_weak HS.out⟩⟩
        | false =>
         obtain ⟨mv,hmv⟩: ∃ z:Int,(if c4 < b4 then b4 else c4)=z:=⟨_,rfl⟩
         have hmx:max c4 b4=mv:=by rw [← hmv];split <;> omega
         have hg:=HH.out
         rw [show cluster_Of.grow (⟨c0,c1,c2,c3,c4,c5⟩:S40) r1 r2 a3 false b4 (ii+1)=(⟨c0,wrap64 (c1+r1),c2,wrap64 (ii+1),mv,c5⟩:S40) from by unfold cluster_Of.grow;rw [h3b,hr2,if_neg (by decide),if_pos rfl,if_neg (by decide)];rw [HW.out,hmx]] at hg
         replace HH:=Am hg
         clear hg hmx
         go_upto_region 12 with (fail)
         (try simp only [Act.put,List.setIfInBounds_toArray,List.set_cons_zero,List.set_cons_succ])
         refine start_ (n:=11) (S:=fun w'=>w'.cell? ⟨g3,m * 6+4,none⟩=some (.int .i64 c4)∧w'.cell? ⟨g7,4,none⟩=some (.int .i64 b4)) (ds:=[10]) (bl 11 0) TK rfl rfl ⟨hc4,cb4⟩ (fun hHeld=>?_)
         refine pureS (i:=0) (N:=some 55) (bl 11 1) rfl rfl TK ?_
         refine pureS (i:=1) (N:=some 56) (bl 11 3) rfl rfl TK ?_
         refine pureS (i:=2) (N:=some 57) (bl 11 7) rfl rfl TK ?_
         refine pureS (i:=3) (N:=some 58) (bl 11 15) rfl rfl TK ?_
         refine pureS (i:=5) (N:=some 60) (bl 11 47) rfl rfl TK ?_
         refine take_ (i:=4) (N:=some 59) (v:=?_) (a':=?_) (bl 11 63) rfl rfl TK (fun _ _ _ h=>h) (Or.inl ⟨by rfl,?_⟩) hHeld ?_ ?_
         rotate_left
         ·
          rintro w' ⟨s0,s1⟩
          go_simp
          with_reducible rfl
         rotate_left
         ·
          simp only [PT]
          rfl
         refine take_ (i:=6) (N:=some 61) (v:=?_) (a':=?_) (bl 11 127) rfl rfl TK (fun _ _ _ h=>h) (Or.inl ⟨by rfl,?_⟩) hHeld ?_ ?_
         rotate_left
         ·
          rintro w' ⟨s0,s1⟩
          go_simp
          with_reducible rfl
         rotate_left
         ·
          simp only [PT]
          rfl
         refine pureS (i:=7) (N:=some 62) (bl 11 255) rfl rfl TK ?_
         refine pureS (i:=8) (N:=some 63) (bl 11 511) rfl rfl TK ?_
         refine pureS (i:=9) (N:=some 64) (bl 11 1023) rfl rfl TK ?_
         refine last_ (i:=10) (N:=none) (bl 11 2047) rfl rfl TK (by decide) (fun K hK=>?_)
         refine skip_ (w1:=?_) (by rfl) rfl ?_ ?_
         rotate_left
         ·
          go_simp
          rfl
         refine hK.out _ _ ?_
         clear hK K
         refine done_ TK ?_
         clear hmv
         have n1_:=cluster_Of.St_fld HS.out m (by omega) (⟨c0,wrap64 (c1+r1),c2,wrap64 (ii+1),mv,c5⟩:S40) 4 (.int .i64 mv) (by omega) (by rw [HC2.out];rfl)
         rw [List.set_set] at n1_
         have n2_:=Am (cluster_Of.St_drew n1_)
         have n4_:=Am (blk_drew (blk_far K7.out (p:=⟨g3,m * 6+4,none⟩) HNE.out.2 (.int .i64 mv)))
         clear HS K6 K7 n1_ hf4 hc4 ca3 ca5 cr2 cb4
         have HS:=n2_
         have K7:=n4_
         clear n2_ n4_
         generalize (w7.setCell {block:=g3,off:=m * 6+4} (Value.int IntKind.i64 mv)).drew=w8 at *
         go_wp2_with (first|((with_reducible refine gate_dst (N:=82) rfl ?_);refine cluster_Of.block_load rfl 64 (.tmp 4) rfl rfl HS.out.2.1 _ Try.underlying64 rfl TK ?_)|((with_reducible refine gate_dst (N:=83) rfl ?_);refine cluster_Of.block_load rfl 62 (.tmp 7) rfl rfl K7.out _ Try.underlying62 rfl TK ?_)|(go_at_call 28;(with_reducible refine (cluster_seen_then.calls a0 a1 a2 a3 a4 _ a6 a7 b0 b1 b2 b3 b4 b5 n0 n1 n2 n3 n4 n5 n6 n7 _ HT.out).mono ?_);rintro e w9 ⟨rfl,hb⟩;have n0_:=Am (cluster_Of.St_below HS.out hb);have n2_:=Am (blk_below K7.out hb);clear HS hb K7;have HS:=n0_;have K7:=n2_;clear n0_ n2_)|((with_reducible refine gate_store (t:=64) (p:=4) (v:= .tmp 84) rfl ?_);refine block_store rfl rfl 64 (.tmp 4) (.tmp 84) rfl rfl (.agg #[.int .i64 n0,.int .i64 n1,.int .i64 n2,.int .i64 n3,.int .i64 n4,.bool n5,.int .i64 n6,.int .i64 n7]) rfl HS.out.2.1 rfl TK (cluster_Of.cells8 n0 n1 n2 n3 n4 n5 n6 n7) ?_;intro w10 hb hk hs hB;replace HS:=Am (cluster_Of.St_putA HS.out hk hB hb);clear hb hk hs hB))
         go_roundg (l0.length - (i+1))
         case measure=>omega
         case rel=>exact ⟨i+1,_,n0,n1,n2,n3,n4,n5,n6,n7,by rw [HII.out];go_num,by omega,Nat.le_refl _,HH,⟨cluster_Of.St_weak HS.out⟩⟩
       | false =>
        obtain ⟨mv,hmv⟩: ∃ z:Int,(if c4 < b4 then b4 else c4)=z:=⟨_,rfl⟩
        have hmx:max c4 b4=mv:=by rw [← hmv];split <;> omega
        have hg:=HH.out
        rw [show cluster_Of.grow (⟨c0,c1,c2,c3,c4,c5⟩:S40) r1 r2 a3 a5 b4 (ii+1)=(⟨c0,wrap64 (c1+r1),c2,wrap64 (ii+1),mv,c5⟩:S40) from by unfold cluster_Of.grow;rw [h3b,hr2,if_neg (by decide),if_neg (by decide)];rw [HW.out,hmx]] at hg
        replace HH:=Am hg
        clear hg hmx
        go_upto_region 12 with (fail)
        (try simp only [Act.put,List.setIfInBounds_toArray,List.set_cons_zero,List.set_cons_succ])
        refine start_ (n:=11) (S:=fun w'=>w'.cell? ⟨g3,m * 6+4,none⟩=some (.int .i64 c4)∧w'.cell? ⟨g7,4,none⟩=some (.int .i64 b4)) (ds:=[10]) (bl 11 0) TK rfl rfl ⟨hc4,cb4⟩ (fun hHeld=>?_)
        refine pureS (i:=0) (N:=some 55) (bl 11 1) rfl rfl TK ?_
        refine pureS (i:=1) (N:=some 56) (bl 11 3) rfl rfl TK ?_
        refine pureS (i:=2) (N:=some 57) (bl 11 7) rfl rfl TK ?_
        refine pureS (i:=3) (N:=some 58) (bl 11 15) rfl rfl TK ?_
        refine pureS (i:=5) (N:=some 60) (bl 11 47) rfl rfl TK ?_
        refine take_ (i:=4) (N:=some 59) (v:=?_) (a':=?_) (bl 11 63) rfl rfl TK (fun _ _ _ h=>h) (Or.inl ⟨by rfl,?_⟩) hHeld ?_ ?_
        rotate_left
        ·
         rintro w' ⟨s0,s1⟩
         go_simp
         with_reducible rfl
        rotate_left
        ·
         simp only [PT]
         rfl
        refine take_ (i:=6) (N:=some 61) (v:=?_) (a':=?_) (bl 11 127) rfl rfl TK (fun _ _ _ h=>h) (Or.inl ⟨by rfl,?_⟩) hHeld ?_ ?_
        rotate_left
        ·
         rintro w' ⟨s0,s1⟩
         go_simp
         with_reducible rfl
        rotate_left
        ·
         simp only [PT]
         rfl
        refine pureS (i:=7) (N:=some 62) (bl 11 255) rfl rfl TK ?_
        refine pureS (i:=8) (N:=some 63) (bl 11 511) rfl rfl TK ?_
        refine pureS (i:=9) (N:=some 64) (bl 11 1023) rfl rfl TK ?_
        refine last_ (i:=10) (N:=none) (bl 11 2047) rfl rfl TK (by decide) (fun K hK=>?_)
        refine skip_ (w1:=?_) (by rfl) rfl ?_ ?_
        rotate_left
        ·
         go_simp
         rfl
        refine hK.out _ _ ?_
        clear hK K
        refine done_ TK ?_
        clear hmv
        have n1_:=cluster_Of.St_fld HS.out m (by omega) (⟨c0,wrap64 (c1+r1),c2,wrap64 (ii+1),mv,c5⟩:S40) 4 (.int .i64 mv) (by omega) (by rw [HC2.out];rfl)
        rw [List.set_set] at n1_
        have n2_:=Am (cluster_Of.St_drew n1_)
        have n4_:=Am (blk_drew (blk_far K7.out (p:=⟨g3,m * 6+4,none⟩) HNE.out.2 (.int .i64 mv)))
        clear HS K6 K7 n1_ hf4 hc4 ca3 ca5 cr2 cb4
        have HS:=n2_
        have K7:=n4_
        clear n2_ n4_
        generalize (w7.setCell {block:=g3,off:=m * 6+4} (Value.int IntKind.i64 mv)).drew=w8 at *
        go_wp2_with (first|((with_reducible refine gate_dst (N:=82) rfl ?_);refine cluster_Of.block_load rfl 64 (.tmp 4) rfl rfl HS.out.2.1 _ Try.underlying64 rfl TK ?_)|((with_reducible refine gate_dst (N:=83) rfl ?_);refine cluster_Of.block_load rfl 62 (.tmp 7) rfl rfl K7.out _ Try.underlying62 rfl TK ?_)|(go_at_call 28;(with_reducible refine (cluster_seen_then.calls a0 a1 a2 a3 a4 _ a6 a7 b0 b1 b2 b3 b4 b5 n0 n1 n2 n3 n4 n5 n6 n7 _ HT.out).mono ?_);rintro e w9 ⟨rfl,hb⟩;have n0_:=Am (cluster_Of.St_below HS.out hb);have n2_:=Am (blk_below K7.out hb);clear HS hb K7;have HS:=n0_;have K7:=n2_;clear n0_ n2_)|((with_reducible refine gate_store (t:=64) (p:=4) (v:= .tmp 84) rfl ?_);refine block_store rfl rfl 64 (.tmp 4) (.tmp 84) rfl rfl (.agg #[.int .i64 n0,.int .i64 n1,.int .i64 n2,.int .i64 n3,.int .i64 n4,.bool n5,.int .i64 n6,.int .i64 n7]) rfl HS.out.2.1 rfl TK (cluster_Of.cells8 n0 n1 n2 n3 n4 n5 n6 n7) ?_;intro w10 hb hk hs hB;replace HS:=Am (cluster_Of.St_putA HS.out hk hB hb);clear hb hk hs hB))
        go_roundg (l0.length - (i+1))
        case measure=>omega
        case rel=>exact ⟨i+1,_,n0,n1,n2,n3,n4,n5,n6,n7,by rw [HII.out];go_num,by omega,Nat.le_refl _,HH,⟨cluster_Of.St_weak HS.out⟩⟩
     ·
      rw [if_neg hp] at H
      cases H
  ·
   obtain rfl:i=l0.length:=by omega
   have H:=HA.out
   rw [List.drop_length] at H
   obtain rfl:=Option.some.inj H
   clear H HA
   go_wp2
   go_ret
   exact ⟨_,rfl,Kd.R_mono HS.out.1 (fun _ _=>trivial),HS.out.2.2.1⟩
end
end Go.Proofs.Yteoaegigjlhamaa.PC19
