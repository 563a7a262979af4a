/- For the laws of the group C19: the Lean functions that the Go functions compute, and proofs that they do. Written by wip/hprint.py of this repo over the kit's printer; nothing here is trusted: Lean checks it. -/
import Derived.Test.YteoaegigjlhamaaPC19x0
import Derived.Test.YteoaegigjlhamaaPC19x7
import Derived.Test.YteoaegigjlhamaaPC19x11
namespace Go.Proofs.Yteoaegigjlhamaa.PC19
open Go.RowKit Go.Proofs.YteoaegigjlhamaaW.PrintWords Go.Proofs.YteoaegigjlhamaaW.PrintLast Go.Proofs.YteoaegigjlhamaaW.PrintMore
attribute [local go_sem] max2_int min2_int max_two min_two max_three min_three max_four min_four
set_option linter.unusedVariables false
set_option linter.unusedSimpArgs false
/-! ### bidi_Order:function 33 -/
def bidi_Order.l0:Nat→List Int→Int→Int→Option (List Int)
 | 0,_,_,_=>none
 | k+1,x3,x8,x9=>if x9 < x8 then (if 0≤x9 then (if x9 < (x3.length:Int) then (bidi_Order.l0 k (x3.set (x9:Int).toNat (mn (mx (rd x3 x9) 0) 126)) x8 (wrap64 (x9+1))) else (none)) else (none)) else ((bidi_turn.f k x3 0 (x3.length:Int) 1).bind fun t178=>(some t178))
def bidi_Order.f (k:Nat) (l0:List Int):Option (List Int):=(slices_Clone_int_int.f l0).bind fun t173=>(bidi_Order.l0 k t173 (t173.length:Int) 0)
theorem bidi_Order.mono_l: ∀ k,(∀ y0 y1 y2,LeO (bidi_Order.l0 k y0 y1 y2) (bidi_Order.l0 (k+1) y0 y1 y2))
 | 0=>fun _ _ _ r h=>by simp [bidi_Order.l0] at h
 | k+1=>by
  have ih0:=bidi_Order.mono_l k
  ·
   intro y0 y1 y2
   unfold bidi_Order.l0
   repeat' first
   | (with_reducible exact ih0 _ _ _)
   | (with_reducible exact bidi_turn.mono _ _ _ _ _)
   | (with_reducible exact LeO.refl _)
   | (with_reducible exact LeO.none _)
   | (with_reducible refine LeO.ite ?_ ?_)
   | (with_reducible refine LeO.bind ?_ (fun _=>?_))
   | exact ih0 _ _ _
   | exact bidi_turn.mono _ _ _ _ _
   | exact LeO.none _
   | refine LeO.ite ?_ ?_
   | refine LeO.bind ?_ (fun _=>?_)
theorem bidi_Order.mono: ∀ a0 k,LeO (bidi_Order.f k a0) (bidi_Order.f (k+1) a0):=by
 intro a0 k
 have ih0:=bidi_Order.mono_l k
 unfold bidi_Order.f
 repeat' first
   | (with_reducible exact ih0 _ _ _)
   | (with_reducible exact bidi_turn.mono _ _ _ _ _)
   | (with_reducible exact LeO.refl _)
   | (with_reducible exact LeO.none _)
   | (with_reducible refine LeO.ite ?_ ?_)
   | (with_reducible refine LeO.bind ?_ (fun _=>?_))
   | exact ih0 _ _ _
   | exact bidi_turn.mono _ _ _ _ _
   | exact LeO.none _
   | refine LeO.ite ?_ ?_
   | refine LeO.bind ?_ (fun _=>?_)
set_option maxHeartbeats 8000000 in
set_option maxRecDepth 100000 in
theorem bidi_Order.calls (k:Nat) (A0:Option Addr) (c0:Nat) (l0:List Int) (r:List Int) (w:World) (hr0:Kd.C (Kd.int .i64) w A0 l0.length l0) (hc0:l0.length≤c0) (h:bidi_Order.f k l0=some r) :
  Calls Try.prog 33 #[.slice A0 l0.length c0] w fun e w'=> ∃ v0_:Value,e= .returned (v0_)∧Kd.R (Kd.int .i64) 3 w' w.heap.size (fun _=>True) v0_ r∧Below w.heap.size w w':=by
 have HR0:=Aside0.mk hr0
 have HC0:=Aside0.mk hc0
 clear hr0 hc0
 have HB:=Aside0.mk (Below.refl w.heap.size w)
 have H:((slices_Clone_int_int.f l0).bind fun t173=>(bidi_Order.l0 k t173 (t173.length:Int) 0))=some r:=h
 clear h
 replace H:=Option.bind_eq_some_iff.mp H
 obtain ⟨t173,A20,H⟩:=H
 replace H:(bidi_Order.l0 k t173 (t173.length:Int) 0)=some r:=H
 have A2:=Aside0.mk A20
 clear A20
 have H':=Aside0.mk H
 clear H
 go_enter Try.func33,Try.ntmps33
 go_wp2_with (first|((with_reducible refine gate_callee (f:=47) rfl ?_);refine goesL_ (some 6) rfl rfl Try.func47 (by kernel_rfl) rfl #[.slice A0 l0.length c0] rfl (by (try simp only [List.map_toArray,List.map_cons,List.map_nil]);first|done|rfl|(simp only [List.length_drop,List.length_take];rfl)) ?_;(with_reducible refine (slices_Clone_int_int.calls _ _ l0 t173 _ ?side1 ?side2 A2.out).mono ?_);(case side1=>repeat (first|exact HR0.out|(with_reducible refine Kd.C_alloc ?_ _)|(with_reducible refine Kd.C_drewN ?_ _)|(with_reducible refine Kd.C_drew ?_)));(case side2=>exact HC0.out);rintro e w3 ⟨v174,rfl,ho0,hb⟩;refine ⟨_,rfl,?_⟩;have n0_:=Aside0.mk (Kd.R_lower ho0 (below_size (by repeat (first|(with_reducible first|exact HB.out|apply below_alloc|apply pw_below_drewN|apply below_drew1)|exact HB.out))));have n1_:=Aside0.mk (below_step (by repeat (first|(with_reducible first|exact HB.out|apply below_alloc|apply pw_below_drewN|apply below_drew1)|exact HB.out)) hb);clear HB;have HO175:=n0_;have HB:=n1_;clear n0_ n1_;(try clear hb);(try clear hb2);(try clear hk);(try clear hi);(try clear ho0);obtain ⟨Ao4,co4,eo4⟩:=Kd.R_slice HO175.out;subst eo4))
 go_loopg [9] k (fun kq v9 w'=> ∃ (x3_1:List Int) (x9_1:Int),v9= .int .i64 x9_1∧Aside0 (bidi_Order.l0 kq x3_1 (t173.length:Int) x9_1=some r)∧Aside0 (kq≤k)∧Aside0 (Kd.R (Kd.int .i64) 3 w' w.heap.size (fun _=>True) (.slice Ao4 t173.length co4) x3_1)∧Aside0 (Below w.heap.size w w'))
 case atStart=>exact ⟨(t173),(0),(by first|rfl|(simp;done)|(simp [*];done)),H',⟨Nat.le_refl _⟩,⟨by (with_reducible repeat (first|apply Kd.R_alloc|apply Kd.R_drewN|apply Kd.R_drew));exact HO175.out⟩,⟨by repeat (first|(with_reducible first|exact HB.out|apply below_alloc|apply pw_below_drewN|apply below_drew1)|exact HB.out)⟩⟩
 case round =>
  clear H'
  try clear p2
  try clear c3
  try clear c4
  obtain ⟨x3_1,x9_1,rfl,HA,HK1,HO_3,HB⟩:=hrel
  have hl3_1:=(Kd.R_reads' HO_3.out).1
  rw [hl3_1] at HO_3
  (try simp only [hl3_1])
  cases gk with
  | zero=>exact absurd HA.out (by simp [bidi_Order.l0])
  | succ k1 =>
   have H:=HA.out
   clear HA
   simp only [bidi_Order.l0] at H
   by_cases c5:x9_1 < (t173.length:Int)
   ·
    rw [if_pos c5] at H
    have c5b0:decide (x9_1 < (t173.length:Int))=true:=decide_eq_true c5
    clear c5
    by_cases c6:0≤x9_1
    ·
     rw [if_pos c6] at H
     have c6b0:decide (0≤x9_1)=true:=decide_eq_true c6
     clear c6
     by_cases c7:x9_1 < (x3_1.length:Int)
     ·
      rw [if_pos c7] at H
      have c7b0:decide (x9_1 < (x3_1.length:Int))=true:=decide_eq_true c7
      clear c7
      obtain ⟨ji8,hji8⟩: ∃ j_:Int,(mx (rd x3_1 x9_1) 0)=j_:=⟨_,rfl⟩
      replace H:(bidi_Order.l0 k1 (x3_1.set (x9_1:Int).toNat (mn (ji8) 126)) (t173.length:Int) (wrap64 (x9_1+1)))=some r:=by first|(rw [hji8] at H;exact H)|(simp only [hji8] at H ⊢;exact H)
      have hji8_:(if (rd x3_1 x9_1) < 0 then 0 else (rd x3_1 x9_1))=ji8:=hji8
      obtain ⟨ji9,hji9⟩: ∃ j_:Int,(mn (ji8) 126)=j_:=⟨_,rfl⟩
      replace H:(bidi_Order.l0 k1 (x3_1.set (x9_1:Int).toNat (ji9)) (t173.length:Int) (wrap64 (x9_1+1)))=some r:=by first|(rw [hji9] at H;exact H)|(simp only [hji9] at H ⊢;exact H)
      have hji9_:(if 126 < (ji8) then 126 else (ji8))=ji9:=hji9
      obtain ⟨y177,hy177⟩: ∃ y_:List Int,y_=(x3_1.set (x9_1:Int).toNat (ji9)):=⟨_,rfl⟩
      replace H:(bidi_Order.l0 k1 y177 (t173.length:Int) (wrap64 (x9_1+1)))=some r:=by first|(rw [hy177];with_reducible exact H)|(have H2_:=(Option.bind_some _ _).symm.trans H;rw [hy177];with_reducible exact H2_)|(have H2_:=(Option.bind_some _ _).symm.trans H;with_reducible exact H2_)|with_reducible exact H|(rw [hy177];exact H)|exact H
      have Ny177:=Aside0.mk hy177
      clear hy177
      have H':=Aside0.mk H
      clear H
      have p176:0≤(x9_1:Int):=of_decide_eq_true (by first|(with_reducible assumption)|assumption)
      have q176:x9_1 < (x3_1.length:Int):=of_decide_eq_true (by first|(with_reducible assumption)|assumption)
      obtain ⟨ad176,e176,hx176_0⟩:=Kd.at_int (Kd.R_reads' HO_3.out).2.2 x9_1 p176 q176
      cases e176
      replace p176:=eq_true p176
      replace q176:=eq_true q176
      have p10:0≤(x9_1:Int):=of_decide_eq_true (by first|(with_reducible assumption)|assumption)
      have q10:(x9_1:Int) < ((x3_1.length:Int):Int):=of_decide_eq_true (by first|(with_reducible assumption)|assumption)
      obtain ⟨go10,co10,eo10,gb10,gl10,cl10,HG10⟩:=Kd.R_form HO_3.out (by omega)
      (first|cases eo10|(injection eo10 with ea_ en_ ec_;(first|subst ea_|(injection ea_ with ea_;subst ea_));subst ec_;clear en_))
      have GB10:=Aside0.mk gb10
      have GG10:=Aside0.mk HG10
      clear gb10 gl10 HG10
      (first|simp only [add_plain] at hx176_0|skip)
      obtain ⟨hx10_0,hf10_0⟩:=Kd.R_celln 0 HO_3.out (x9_1:Int) p10 q10
      replace p10:=eq_true p10
      replace q10:=eq_true q10
      have HP11:=Kd.R_putg HO_3.out (x9_1:Int) ji9
      go_wp2_with (first|((with_reducible refine gate_store (t:=3) (p:=20) rfl ?_);refine store_event (t:=3) (p:=20) (v:=?vo_w12) (w1:=(wr.setCell ⟨go10,(x9_1:Int).toNat,none⟩ (.int .i64 ji9))) ?hg ?ho ?hn ?hr ?_;(case ho=>rfl);(case hg=>rfl);(case hn=>rfl);(case hr=>first|(go_simp;done)|(go_simp;rfl));intro w12 hw;have hg:wr.grownBy w12 (some go10):=(by rw [hw];exact HP11.2);have hp_:Kd.R (Kd.int .i64) 3 w12 w.heap.size (fun _=>True) (.slice (some ⟨go10,0,none⟩) x3_1.length co4) y177:=(by rw [hw,Ny177.out];exact HP11.1);clear HP11;have n0_:=Aside0.mk (hp_);have n1_:=Aside0.mk ((by rw [hw];exact below_set (HB.out) GB10.out:Below w.heap.size w w12));clear HO_3;clear HB;have HO_3:=n0_;have HB:=n1_;clear n0_ n1_;clear hg hw hp_))
      (try simp only [← hl3_1])
      go_roundg k1
      case measure=>have:=HK1.out;omega
      case rel=>exact ⟨(y177),(wrap64 (x9_1+1)),(by first|rfl|(simp;done)|(simp [*];done)),H',⟨by have:=HK1.out;omega⟩,⟨by (try simp only [hl3_1]);(with_reducible repeat (first|apply Kd.R_alloc|apply Kd.R_drewN|apply Kd.R_drew));exact HO_3.out⟩,⟨by repeat (first|(with_reducible first|exact HB.out|apply below_alloc|apply pw_below_drewN|apply below_drew1)|exact HB.out)⟩⟩
     ·
      rw [if_neg c7] at H
      exact absurd H (by simp)
    ·
     rw [if_neg c6] at H
     exact absurd H (by simp)
   ·
    rw [if_neg c5] at H
    have c5b0:decide (x9_1 < (t173.length:Int))=false:=decide_eq_false c5
    have c5b1:decide (x9_1 < (x3_1.length:Int))=false:=by first|(rw [hl3_1];exact c5b0)|(rw [← hl3_1];exact c5b0)
    clear c5
    replace H:=Option.bind_eq_some_iff.mp H
    obtain ⟨t178,A130,H⟩:=H
    replace H:(some t178)=some r:=H
    have A13:=Aside0.mk A130
    clear A130
    obtain rfl:=Option.some.inj H
    go_wp2_with (first|((with_reducible refine gate_callee (f:=51) rfl ?_);refine goesL_ (some 25) rfl rfl Try.func51 (by kernel_rfl) rfl #[.slice Ao4 x3_1.length co4,.int .i64 0,.int .i64 (x3_1.length:Int),.int .i64 1] rfl (by (try simp only [List.map_toArray,List.map_cons,List.map_nil]);first|done|rfl|(simp only [List.length_drop,List.length_take];rfl)) ?_;(with_reducible refine (bidi_turn.calls k1 _ _ x3_1 0 (x3_1.length:Int) 1 t178 _ ?side1 ?side2 A13.out).mono ?_);(case side1=>repeat (first|exact (Kd.R_reads' HO_3.out).2.2|(with_reducible refine Kd.C_alloc ?_ _)|(with_reducible refine Kd.C_drewN ?_ _)|(with_reducible refine Kd.C_drew ?_)));(case side2=>exact (Kd.R_reads' HO_3.out).2.1);rintro e w14 ⟨v179,rfl,ho0,hb⟩;refine ⟨_,rfl,?_⟩;have n0_:=Aside0.mk (Kd.R_elder' (by (with_reducible repeat (first|apply Kd.R_alloc|apply Kd.R_drewN|apply Kd.R_drew));exact HO_3.out) (Kd.R_base ho0) hb);have n1_:=Aside0.mk (Kd.R_lower (Kd.R_new' ho0 (Kd.R_lt (by (with_reducible repeat (first|apply Kd.R_alloc|apply Kd.R_drewN|apply Kd.R_drew));exact HO_3.out))) (below_size (by repeat (first|(with_reducible first|exact HB.out|apply below_alloc|apply pw_below_drewN|apply below_drew1)|exact HB.out))));have n2_:=Aside0.mk (below_step (by repeat (first|(with_reducible first|exact HB.out|apply below_alloc|apply pw_below_drewN|apply below_drew1)|exact HB.out)) hb);clear HO_3;clear HB;have HO_3:=n0_;have HO180:=n1_;have HB:=n2_;clear n0_ n1_ n2_;(try clear hb);(try clear hb2);(try clear hk);(try clear hi);(try clear ho0)))
    go_ret
    exact ⟨_,by first|rfl|(simp [errW_none,errW_some] <;> rfl)|(simp [*,errW_none,errW_some] <;> rfl),by (with_reducible repeat (first|apply Kd.R_alloc|apply Kd.R_drewN|apply Kd.R_drew));exact Kd.R_mono HO180.out (fun _ hk=>trivial),by repeat (first|(with_reducible first|exact HB.out|apply below_alloc|apply pw_below_drewN|apply below_drew1)|exact HB.out)⟩
/-! ### mirror_find:function 80:by hand -/
structure mirror_find.Row where
 f:Int
 t:Int
 a:Int
 b:Bool
def mirror_find.rowsL:List mirror_find.Row:=[⟨40,41,1,true⟩,⟨60,62,2,false⟩,⟨91,93,2,true⟩,⟨123,125,2,true⟩,⟨171,187,16,false⟩,⟨3898,3901,1,true⟩,⟨5787,5788,1,true⟩,⟨8249,8250,1,false⟩,⟨8261,8262,1,true⟩,⟨8317,8318,1,true⟩,⟨8333,8334,1,true⟩,⟨8712,8717,3,false⟩,⟨8764,8765,1,false⟩,⟨8804,8811,1,false⟩,⟨8814,8841,1,false⟩,⟨8847,8850,1,false⟩,⟨8866,8867,1,false⟩,⟨8882,8885,1,false⟩,⟨8912,8913,1,false⟩,⟨8918,8941,1,false⟩,⟨8968,8971,1,true⟩,⟨9001,9002,1,true⟩,⟨10088,10101,1,true⟩,⟨10181,10182,1,true⟩,⟨10214,10223,1,true⟩,⟨10627,10636,1,true⟩,⟨10641,10648,1,true⟩,⟨10712,10715,1,true⟩,⟨10748,10749,1,true⟩,⟨11810,11817,1,true⟩,⟨12296,12305,1,true⟩,⟨12308,12315,1,true⟩,⟨65113,65118,1,true⟩,⟨65288,65289,1,true⟩,⟨65339,65341,2,true⟩,⟨65371,65373,2,true⟩,⟨65375,65376,1,true⟩,⟨65378,65379,1,true⟩]
def mirror_find.cells (r:mirror_find.Row):List Value:=[.int .i64 r.f,.int .i64 r.t,.int .i64 r.a,.bool r.b]
def mirror_find.all:List Value:=mirror_find.rowsL.flatMap mirror_find.cells
def mirror_find.z:mirror_find.Row:=⟨0,0,0,false⟩
def mirror_find.row (j:Nat):mirror_find.Row:=mirror_find.rowsL.getD j mirror_find.z
def mirror_find.at_ (c:Int):Nat:=mirror_find.rowsL.findIdx (fun r=>decide (c≤r.t))
def mirror_find.inRow (r:mirror_find.Row) (c:Int):Int × Int × Bool :=
 if r.a > 1∧c - r.f≠0∧c≠r.t∧r.t - r.f=r.a then (0,0,false) else if Int.tmod ((c - r.f) / r.a) 2=0 then (1,c+r.a,r.b) else (2,c - r.a,r.b)
def mirror_find.val (c:Int):Int × Int × Bool:=if mirror_find.at_ c < 38∧(mirror_find.row (mirror_find.at_ c)).f≤c then mirror_find.inRow (mirror_find.row (mirror_find.at_ c)) c else (0,0,false)
def mirror_find.f (a0:Int):Option (Int × Int × Bool):=some (mirror_find.val a0)
section
open Go.Proofs.YteoaegigjlhamaaH
set_option maxRecDepth 100000 in
theorem mirror_find.rows_size:(mirror_find.all).toArray.size=152:=by decide
theorem mirror_find.rows_one: ∀ q ∈ (Value.agg mirror_find.all.toArray).cells.toList,q.oneCell'=true:=by
 intro q hq
 have hq':q ∈ mirror_find.all:=by simpa [Value.cells] using hq
 unfold mirror_find.all at hq'
 obtain ⟨r,_,hr⟩:=List.mem_flatMap.1 hq'
 unfold mirror_find.cells at hr
 simp only [List.mem_cons,List.not_mem_nil,or_false] at hr
 rcases hr with rfl|rfl|rfl|rfl <;> rfl
set_option maxHeartbeats 4000000 in
set_option maxRecDepth 100000 in
theorem mirror_find.rows_calls (w:World):Calls Try.prog 101 #[] w fun e w'=>e= .returned (.agg mirror_find.all.toArray)∧Below w.heap.size w w':=by
 go_enter Try.func101,Try.ntmps101
 refine wp_seq (wp_region_list ?_)
 refine alloc_event rfl 139 rfl 152 (by kernel_rfl) ?_
 intro g w1 cs hcs hg hb hbel hsz
 refine wpList_nil (wp_seq (wp_region_list ?_))
 refine builds_event 77 _ 0 77 (.pointer (some ⟨g,0,none⟩)) (.agg mirror_find.all.toArray) (by kernel_rfl) ?_
 rintro ⟨tm,df⟩ h1 h2 h3
 have hs:=mirror_find.rows_size
 have ho:=mirror_find.rows_one
 generalize hV:Value.agg mirror_find.all.toArray=V at *
 refine block_store rfl rfl 139 (.tmp 0) (.tmp 77) rfl h1 V h2 hb (by rw [hcs,← hV];exact hs) (by rw [hcs];kernel_rfl) ho ?_
 intro w2 hb2 hk2 hs2 hB2
 refine wpList_nil (wp_ret ?_)
 subst hV
 exact bodyPost_ret (v:= .agg mirror_find.all.toArray) (results_c1 rfl _ _ _ _ _ _ _ h1 hb2 Try.underlying139 rfl (by rw [hs];kernel_rfl)) h3 ⟨rfl,hB2 _ _ hbel (by omega)⟩
theorem mirror_find.cmp_over (f t a c:Int) (b:Bool) (W:World) (h:c < f):Calls Try.prog 103 #[.agg #[.int .i64 f,.int .i64 t,.int .i64 a,.bool b],.int .i64 c] W fun e w'=>e= .returned (.int .i64 1)∧Below W.heap.size W w':=by
 have hb:decide (c < f)=true:=decide_eq_true h
 clear h
 go_enter Try.func103,Try.ntmps103
 go_wp2
 go_ret
 exact ⟨rfl,below_alloc (Below.refl _ _) _⟩
theorem mirror_find.cmp_under (f t a c:Int) (b:Bool) (W:World) (h0: ¬ c < f) (h:t < c):Calls Try.prog 103 #[.agg #[.int .i64 f,.int .i64 t,.int .i64 a,.bool b],.int .i64 c] W fun e w'=>e= .returned (.int .i64 (-1))∧Below W.heap.size W w':=by
 have hb0:decide (c < f)=false:=decide_eq_false h0
 have hb:decide (t < c)=true:=decide_eq_true h
 clear h h0
 go_enter Try.func103,Try.ntmps103
 go_wp2
 go_ret
 exact ⟨rfl,below_alloc (Below.refl _ _) _⟩
theorem mirror_find.cmp_in (f t a c:Int) (b:Bool) (W:World) (h0: ¬ c < f) (h: ¬ t < c):Calls Try.prog 103 #[.agg #[.int .i64 f,.int .i64 t,.int .i64 a,.bool b],.int .i64 c] W fun e w'=>e= .returned (.int .i64 0)∧Below W.heap.size W w':=by
 have hb0:decide (c < f)=false:=decide_eq_false h0
 have hb:decide (t < c)=false:=decide_eq_false h
 clear h h0
 go_enter Try.func103,Try.ntmps103
 go_wp2
 go_ret
 exact ⟨rfl,below_alloc (Below.refl _ _) _⟩
set_option maxHeartbeats 1000000 in
set_option maxRecDepth 100000 in
theorem mirror_find.search (R:Nat→mirror_find.Row) (g c n cnt:Nat) (y:Int) (w:World) (hg:g < w.heap.size) (hc: ∀ j,j < n→ ∀ (k:Nat) v,(mirror_find.cells (R j))[k]?=some v→w.cell? ⟨g,j * 4+k,none⟩=some v) (hlen:n < 4611686018427387904)
  (hs: ∀ a b,a < b→b < n→(R a).t < (R b).f) (hf: ∀ a,a < n→(R a).f≤(R a).t) (h1:cnt≤n) (h2: ∀ t,t < cnt→(R t).t < y) (h3: ∀ t,cnt≤t→t < n→y≤(R t).t) :
  Calls Try.prog 102 #[.slice (some ⟨g,0,none⟩) n c,.int .i64 y,.func (.func 103) #[] #[]] w fun e w'=>e= .returned (.tuple #[.int .i64 (cnt:Int),.bool (decide (cnt < n∧(R cnt).f≤y))])∧Below w.heap.size w w':=by
 have eg: ∀ args w,(callFunc 103 args).run Try.prog w= .ok (.enter 103 args) w:=enters_of Try.func103 (by kernel_rfl) rfl
 have HC:=Aside0.mk hc
 have HS:=Aside0.mk hs
 have HF:=Aside0.mk hf
 have HG:=Aside0.mk hg
 have HN:=Aside0.mk (And.intro h1 (And.intro h2 h3))
 have HB0:=Aside0.mk (Below.refl w.heap.size w)
 clear hc hs hg hf h1 h2 h3
 obtain ⟨fnd,hfnd⟩: ∃ m,m=decide (cnt < n∧(R cnt).f≤y):=⟨_,rfl⟩
 rw [← hfnd]
 have HFND:=Aside0.mk hfnd
 clear hfnd
 go_enter Try.func102,Try.ntmps102
 go_wp2
 go_loopg [9,10] n (fun kx s9 s10 wr=> ∃ lo hi:Nat,s9= .int .i64 lo∧s10= .int .i64 hi∧lo≤hi∧hi≤n∧hi - lo≤kx∧Aside0 (Below w.heap.size w wr)∧Aside0 ((∀ t,t < lo→(R t).t < y)∧(∀ t,hi≤t→t < n→y≤(R t).t)))
 case atStart=>exact ⟨0,n,rfl,rfl,Nat.zero_le _,Nat.le_refl _,by omega,HB0,⟨fun t ht=>absurd ht (Nat.not_lt_zero _),fun t h1 h2=>by omega⟩⟩
 case round =>
  clear HB0
  obtain ⟨lo,hi,rfl,rfl,hlh,hin,hk,HB,I⟩:=hrel
  by_cases hlt:lo < hi
  ·
   have cm: ∀ (k:Nat) v,(mirror_find.cells (R ((lo+hi) / 2)))[k]?=some v→wr.cell? ⟨g,(lo+hi) / 2 * 4+k,none⟩=some v:=fun k v h=>(HB.out.cell (p:=⟨g,(lo+hi) / 2 * 4+k,none⟩) HG.out).trans (HC.out _ (by omega) k v h)
   rcases hv:R ((lo+hi) / 2) with ⟨rf,rt,ra,rb⟩
   rw [hv] at cm
   have V:=Aside0.mk hv
   have cm0:wr.cell? ⟨g,(lo+hi) / 2 * 4,none⟩=some (.int .i64 rf):=cm 0 _ rfl
   have cm1:wr.cell? ⟨g,(lo+hi) / 2 * 4+1,none⟩=some (.int .i64 rt):=cm 1 _ rfl
   have cm2:wr.cell? ⟨g,(lo+hi) / 2 * 4+2,none⟩=some (.int .i64 ra):=cm 2 _ rfl
   have cm3:wr.cell? ⟨g,(lo+hi) / 2 * 4+3,none⟩=some (.bool rb):=cm 3 _ rfl
   clear hv cm
   by_cases h1:y < rf
   ·
    have HV:=Aside0.mk (show y < rf from h1)
    clear h1
    go_wp2_with (go_at_fn 103;refine (mirror_find.cmp_over _ _ _ _ _ _ HV.out).mono ?_;rintro e w2 ⟨rfl,hb2⟩;have n0_:=Aside0.mk (below_step HB.out hb2);clear HB hb2;have HB:=n0_;clear n0_)
    go_roundg ((lo+hi) / 2 - lo)
    case measure=>omega
    case rel =>
     refine ⟨lo,(lo+hi) / 2,rfl,by rw [show ((lo:Int)+(hi:Int)) / 2=(((lo+hi) / 2:Nat):Int) by omega],by omega,by omega,Nat.le_refl _,HB,⟨I.out.1,fun t ht htn=>?_⟩⟩
     have h5:=HF.out ((lo+hi) / 2) (by omega)
     have h6:=HV.out
     rw [V.out] at h5
     by_cases he:t=(lo+hi) / 2
     ·
      rw [he,V.out]
      show y≤rt
      have:rf≤rt:=h5
      omega
     ·
      have h7:=HS.out ((lo+hi) / 2) t (by omega) htn
      have h8:=HF.out t htn
      rw [V.out] at h7
      have:rt < (R t).f:=h7
      have:rf≤rt:=h5
      omega
   ·
    by_cases h2:rt < y
    ·
     have HV0:=Aside0.mk h1
     have HV:=Aside0.mk h2
     clear h1 h2
     go_wp2_with (go_at_fn 103;refine (mirror_find.cmp_under _ _ _ _ _ _ HV0.out HV.out).mono ?_;rintro e w2 ⟨rfl,hb2⟩;have n0_:=Aside0.mk (below_step HB.out hb2);clear HB hb2;have HB:=n0_;clear n0_)
     go_roundg (hi - ((lo+hi) / 2+1))
     case measure=>omega
     case rel =>
      refine ⟨(lo+hi) / 2+1,hi,by rw [show ((lo:Int)+(hi:Int)) / 2+1=(((lo+hi) / 2+1:Nat):Int) by omega],rfl,by omega,hin,Nat.le_refl _,HB,⟨fun t ht=>?_,I.out.2⟩⟩
      have h6:=HV.out
      by_cases he:t=(lo+hi) / 2
      ·
       rw [he,V.out]
       exact h6
      ·
       have h7:=HS.out t ((lo+hi) / 2) (by omega) (by omega)
       have h8:=HF.out ((lo+hi) / 2) (by omega)
       rw [V.out] at h7 h8
       have:(R t).t < rf:=h7
       have:rf≤rt:=h8
       omega
    ·
     have HV0:=Aside0.mk h1
     have HV1:=Aside0.mk h2
     have HV:=Aside0.mk (show y≤rt by omega)
     clear h1 h2
     go_wp2_with (go_at_fn 103;refine (mirror_find.cmp_in _ _ _ _ _ _ HV0.out HV1.out).mono ?_;rintro e w2 ⟨rfl,hb2⟩;have n0_:=Aside0.mk (below_step HB.out hb2);clear HB hb2;have HB:=n0_;clear n0_)
     go_roundg ((lo+hi) / 2 - lo)
     case measure=>omega
     case rel =>
      refine ⟨lo,(lo+hi) / 2,rfl,by rw [show ((lo:Int)+(hi:Int)) / 2=(((lo+hi) / 2:Nat):Int) by omega],by omega,by omega,Nat.le_refl _,HB,⟨I.out.1,fun t ht htn=>?_⟩⟩
      have h5:=HF.out ((lo+hi) / 2) (by omega)
      have h6:=HV.out
      rw [V.out] at h5
      by_cases he:t=(lo+hi) / 2
      ·
       rw [he,V.out]
       show y≤rt
       have:rf≤rt:=h5
       omega
      ·
       have h7:=HS.out ((lo+hi) / 2) t (by omega) htn
       have h8:=HF.out t htn
       rw [V.out] at h7
       have:rt < (R t).f:=h7
       have:rf≤rt:=h5
       omega
  ·
   obtain rfl:hi=lo:=by omega
   have ecnt:cnt=hi:=by
    obtain ⟨n1,n2,n3⟩:=HN.out
    obtain ⟨i1,i2⟩:=I.out
    rcases Nat.lt_trichotomy cnt hi with h|h|h
    ·
     have:=i1 cnt h
     have:=n3 cnt (Nat.le_refl _) (by omega)
     omega
    ·
     exact h
    ·
     have:=n2 hi h
     have:=i2 hi (Nat.le_refl _) (by omega)
     omega
   subst ecnt
   by_cases hcn:cnt < n
   ·
    have cm: ∀ (k:Nat) v,(mirror_find.cells (R cnt))[k]?=some v→wr.cell? ⟨g,cnt * 4+k,none⟩=some v:=fun k v h=>(HB.out.cell (p:=⟨g,cnt * 4+k,none⟩) HG.out).trans (HC.out _ hcn k v h)
    have hle:=I.out.2 cnt (Nat.le_refl _) hcn
    rcases hv:R cnt with ⟨rf,rt,ra,rb⟩
    rw [hv] at cm hle
    have cm0:wr.cell? ⟨g,cnt * 4,none⟩=some (.int .i64 rf):=cm 0 _ rfl
    have cm1:wr.cell? ⟨g,cnt * 4+1,none⟩=some (.int .i64 rt):=cm 1 _ rfl
    have cm2:wr.cell? ⟨g,cnt * 4+2,none⟩=some (.int .i64 ra):=cm 2 _ rfl
    have cm3:wr.cell? ⟨g,cnt * 4+3,none⟩=some (.bool rb):=cm 3 _ rfl
    have hfd:=HFND.out
    rw [hv] at hfd
    have V:=Aside0.mk hv
    clear hv cm HFND
    by_cases h1:y < rf
    ·
     have HV:=Aside0.mk h1
     obtain rfl:fnd=false:=by rw [hfd];exact decide_eq_false (fun h=>by have:rf≤y:=h.2;omega)
     clear h1 hfd hle
     go_wp2_with (go_at_fn 103;refine (mirror_find.cmp_over _ _ _ _ _ _ HV.out).mono ?_;rintro e w2 ⟨rfl,hb2⟩;have n0_:=Aside0.mk (below_step HB.out hb2);clear HB hb2;have HB:=n0_;clear n0_)
     go_ret2
     exact ⟨rfl,HB.out⟩
    ·
     have HV0:=Aside0.mk h1
     have HV1:=Aside0.mk (show ¬ rt < y from by have:y≤rt:=hle;omega)
     obtain rfl:fnd=true:=by rw [hfd];exact decide_eq_true ⟨hcn,by show rf≤y;omega⟩
     clear h1 hfd hle
     go_wp2_with (go_at_fn 103;refine (mirror_find.cmp_in _ _ _ _ _ _ HV0.out HV1.out).mono ?_;rintro e w2 ⟨rfl,hb2⟩;have n0_:=Aside0.mk (below_step HB.out hb2);clear HB hb2;have HB:=n0_;clear n0_)
     go_ret2
     exact ⟨rfl,HB.out⟩
   ·
    obtain rfl:fnd=false:=by rw [HFND.out];exact decide_eq_false (fun h=>hcn h.1)
    go_wp2
    go_ret2
    exact ⟨rfl,HB.out⟩
theorem mirror_find.row_facts: ∀ j,j < 38→0≤(mirror_find.row j).f∧(mirror_find.row j).f≤(mirror_find.row j).t∧(mirror_find.row j).t≤70000∧1≤(mirror_find.row j).a∧(mirror_find.row j).a≤16:=by
 have h: ∀ j:Fin 38,0≤(mirror_find.row j.val).f∧(mirror_find.row j.val).f≤(mirror_find.row j.val).t∧(mirror_find.row j.val).t≤70000∧1≤(mirror_find.row j.val).a∧(mirror_find.row j.val).a≤16:=by decide +kernel
 exact fun j hj=>h ⟨j,hj⟩
theorem mirror_find.row_up: ∀ a b,a < b→b < 38→(mirror_find.row a).t < (mirror_find.row b).f:=by
 have h: ∀ b:Fin 38,∀ a:Fin b.val,(mirror_find.row a.val).t < (mirror_find.row b.val).f:=by decide +kernel
 exact fun a b h1 h2=>h ⟨b,h2⟩ ⟨a,h1⟩
theorem mirror_find.at_le (c:Int):mirror_find.at_ c≤38:=List.findIdx_le_length
theorem mirror_find.at_before (c:Int) (t:Nat) (h:t < mirror_find.at_ c):(mirror_find.row t).t < c:=by
 have h38:=mirror_find.at_le c
 have hl:t < mirror_find.rowsL.length:=by show t < 38;omega
 have h1:=List.not_of_lt_findIdx (p:=fun r:mirror_find.Row=>decide (c≤r.t)) h
 have h2:mirror_find.row t=mirror_find.rowsL[t]:=by
  unfold mirror_find.row
  rw [List.getD_eq_getElem?_getD,List.getElem?_eq_getElem hl]
  rfl
 rw [h2]
 simpa using h1
theorem mirror_find.at_here (c:Int) (h:mirror_find.at_ c < 38):c≤(mirror_find.row (mirror_find.at_ c)).t:=by
 have h1:=List.findIdx_getElem (p:=fun r:mirror_find.Row=>decide (c≤r.t)) (w:=h)
 have h2:mirror_find.row (mirror_find.at_ c)=mirror_find.rowsL[mirror_find.at_ c]'h:=by
  unfold mirror_find.row
  rw [List.getD_eq_getElem?_getD,List.getElem?_eq_getElem h]
  rfl
 rw [h2]
 exact of_decide_eq_true h1
theorem mirror_find.at_behind (c:Int) (t:Nat) (h:mirror_find.at_ c≤t) (ht:t < 38):c≤(mirror_find.row t).t:=by
 have h1:=mirror_find.at_here c (by omega)
 by_cases he:mirror_find.at_ c=t
 ·
  rw [← he];exact h1
 ·
  have:=mirror_find.row_up (mirror_find.at_ c) t (by omega) ht
  have:=(mirror_find.row_facts t ht).2.1
  omega
theorem mirror_find.flat_at: ∀ (l:List mirror_find.Row) (j k:Nat) (v:Value),j < l.length→(mirror_find.cells (l.getD j mirror_find.z))[k]?=some v→(l.flatMap mirror_find.cells)[j * 4+k]?=some v
 | [],j,k,v,h,_=>by simp at h
 | r::l,0,k,v,h,hk=>by
  have hk4:k < 4:=by
   have:=(List.getElem?_eq_some_iff.1 hk).1
   simpa [mirror_find.cells] using this
  rw [List.flatMap_cons,Nat.zero_mul,Nat.zero_add,List.getElem?_append_left (by simpa [mirror_find.cells] using hk4)]
  exact hk
 | r::l,j+1,k,v,h,hk=>by
  rw [List.flatMap_cons,List.getElem?_append_right (by simp [mirror_find.cells];omega)]
  have:=mirror_find.flat_at l j k v (by simpa using h) hk
  rw [show (j+1) * 4+k - (mirror_find.cells r).length=j * 4+k by simp [mirror_find.cells];omega]
  exact this
theorem mirror_find.blk_cells (W:World) (g:Nat) (h:W.heap[g]?=some (.cells mirror_find.all.toArray 139 (0,0))) (j:Nat) (hj:j < 38) (k:Nat) (v:Value) (hk:(mirror_find.cells (mirror_find.row j))[k]?=some v):W.cell? ⟨g,j * 4+k,none⟩=some v:=by
 rw [blk_cell h]
 have:=mirror_find.flat_at mirror_find.rowsL j k v hj hk
 simpa [mirror_find.all] using this
theorem mirror_find.row_cells (W:World) (g:Nat) (a b c:Int) (d:Bool) (h:W.heap[g]?=some (.cells (Value.agg #[.int .i64 a,.int .i64 b,.int .i64 c,.bool d]).cells 138 (0,0))) :
  W.cell? ⟨g,0,none⟩=some (.int .i64 a)∧W.cell? ⟨g,1,none⟩=some (.int .i64 b)∧W.cell? ⟨g,2,none⟩=some (.int .i64 c)∧W.cell? ⟨g,3,none⟩=some (.bool d) :=
 ⟨(blk_cell h 0).trans rfl,(blk_cell h 1).trans rfl,(blk_cell h 2).trans rfl,(blk_cell h 3).trans rfl⟩
theorem mirror_find.row_one (a b c:Int) (d:Bool): ∀ q ∈ (Value.agg #[.int .i64 a,.int .i64 b,.int .i64 c,.bool d]).cells.toList,q.oneCell'=true:=by
 intro q hq
 have hq':q ∈ [Value.int .i64 a,.int .i64 b,.int .i64 c,.bool d]:=hq
 simp only [List.mem_cons,List.not_mem_nil,or_false] at hq'
 rcases hq' with rfl|rfl|rfl|rfl <;> rfl
set_option maxHeartbeats 4000000 in
set_option maxRecDepth 100000 in
theorem mirror_find.calls (a0:Int) (r1:Int) (r2:Int) (r3:Bool) (w:World) (h:mirror_find.f a0=some (r1,r2,r3)) :
  Calls Try.prog 80 #[.int .i64 a0] w fun e w'=>e= .returned (.tuple #[.int .i64 r1,.int .i64 r2,.bool r3])∧Below w.heap.size w w':=by
 have hv:mirror_find.val a0=(r1,r2,r3):=Option.some.inj h
 clear h
 have HSZ:=Aside0.mk mirror_find.rows_size
 have HONE:=Aside0.mk mirror_find.rows_one
 have HROWS:=Aside0.mk mirror_find.rows_calls
 have HBC:=Aside0.mk mirror_find.blk_cells
 have hse:=fun g W c (hg:g < W.heap.size) hc=>mirror_find.search mirror_find.row g c 38 (mirror_find.at_ a0) a0 W hg hc (by decide) mirror_find.row_up (fun a h=>(mirror_find.row_facts a h).2.1) (mirror_find.at_le a0) (mirror_find.at_before a0) (mirror_find.at_behind a0)
 have hfa:=mirror_find.row_facts (mirror_find.at_ a0)
 have hhe:=mirror_find.at_here a0
 unfold mirror_find.val at hv
 generalize mirror_find.at_ a0=n at *
 generalize hall:mirror_find.all=al at *
 generalize mirror_find.row=R at *
 clear hall
 by_cases hf:n < 38∧(R n).f≤a0
 ·
  have hd:decide (n < 38∧(R n).f≤a0)=true:=decide_eq_true hf
  rw [hd] at hse
  have HSE:=Aside0.mk hse
  rw [if_pos hf] at hv
  obtain ⟨hn,hle⟩:=hf
  have hn2:=hhe hn
  have hfa:=hfa hn
  rcases hR:R n with ⟨rf,rt,ra,rb⟩
  have HR:=Aside0.mk hR
  rw [hR] at hv hle hn2 hfa
  clear hse hd hhe hR
  obtain ⟨q0,q1,q2,q3,q4⟩:0≤rf∧rf≤rt∧rt≤70000∧1≤ra∧ra≤16:=hfa
  have q5:rf≤a0:=hle
  have q6:a0≤rt:=hn2
  have HN:=Aside0.mk hn
  clear hle hn2 hfa
  have hv:(if ra > 1∧a0 - rf≠0∧a0≠rt∧rt - rf=ra then ((0,0,false):Int × Int × Bool) else if Int.tmod ((a0 - rf) / ra) 2=0 then (1,a0+ra,rb) else (2,a0 - ra,rb))=(r1,r2,r3):=hv
  by_cases c1:1 < ra
  ·
   have b1:decide (1 < ra)=true:=decide_eq_true c1
   by_cases c2:a0 - rf=0
   ·
    rw [if_neg (fun h_=>h_.2.1 c2)] at hv
    have b2:(a0 - rf==0)=true:=beq_iff_eq.2 c2
    have b2':(a0 - rf !=0)=false:=by rw [bne,b2];rfl
    clear c1 c2
    by_cases c5:Int.tmod ((a0 - rf) / ra) 2=0
    ·
     have b5:(Int.tmod ((a0 - rf) / ra) 2==0)=true:=beq_iff_eq.2 c5
     rw [if_pos c5] at hv
     obtain ⟨rfl,rfl,rfl⟩:(1:Int)=r1∧a0+ra=r2∧rb=r3:=by simpa using hv
     clear hv c5
     go_enter Try.func80,Try.ntmps80
     go_wp2_with (first|(go_at_call 101;refine (HROWS.out _).mono ?_;rintro e w1 ⟨rfl,hb1⟩;have HB:=Aside0.mk hb1;clear hb1)|((with_reducible refine gate_dst (N:=5) rfl ?_);refine alloc_event rfl 139 rfl 152 (by kernel_rfl) ?_;intro g w2 cs hcs hg hb hbel hsz;have HG:=Aside0.mk (show w.heap.size≤g by have:=HB.out.size;omega);have n0_:=Aside0.mk (below_step HB.out hbel);clear HB;have HB:=n0_;clear n0_;have HK1:=Aside0.mk hb;have HCS:=Aside0.mk hcs;clear hcs hg hb hbel hsz)|((with_reducible refine gate_store (t:=139) (p:=5) rfl ?_);refine block_store rfl rfl 139 (.tmp 5) (.tmp 10) rfl rfl (.agg al.toArray) rfl HK1.out (by rw [HCS.out];exact HSZ.out) (by rw [HCS.out];kernel_rfl) HONE.out ?_;intro w3 hb3 hk3 hs3 hB3;have n0_:=Aside0.mk (hB3 _ _ HB.out HG.out);clear HB;have HB:=n0_;clear n0_;have HK2:=Aside0.mk hb3;clear HK1 hb3 hk3 hs3 hB3;have HGW:=Aside0.mk (show g < w3.heap.size by obtain ⟨h_,_⟩:=Array.getElem?_eq_some_iff.1 HK2.out;exact h_))|(go_at_call 102;refine (HSE.out g _ _ HGW.out (fun j hj k v h_=>HBC.out _ g HK2.out j hj k v h_)).mono ?_;rintro e w4 ⟨rfl,hb4⟩;have HC4:=Aside0.mk (fun j hj k v h_=>(hb4.cell (p:=⟨g,j * 4+k,none⟩) HGW.out).trans (HBC.out _ g HK2.out j hj k v h_));have n0_:=Aside0.mk (below_step HB.out hb4);clear HB hb4 HK2;have HB:=n0_;clear n0_;have cm0:w4.cell? ⟨g,n * 4,none⟩=some (.int .i64 rf):=HC4.out n HN.out 0 _ (by rw [HR.out];rfl);have cm1:w4.cell? ⟨g,n * 4+1,none⟩=some (.int .i64 rt):=HC4.out n HN.out 1 _ (by rw [HR.out];rfl);have cm2:w4.cell? ⟨g,n * 4+2,none⟩=some (.int .i64 ra):=HC4.out n HN.out 2 _ (by rw [HR.out];rfl);have cm3:w4.cell? ⟨g,n * 4+3,none⟩=some (.bool rb):=HC4.out n HN.out 3 _ (by rw [HR.out];rfl);clear HC4)|((with_reducible refine gate_dst (N:=8) rfl ?_);refine alloc_event rfl 138 rfl 4 (by kernel_rfl) ?_;intro g2 w5 cs2 hcs2 hg2 hb2 hbel2 hsz2;have HG2:=Aside0.mk (show w.heap.size≤g2 by have:=HB.out.size;omega);have n0_:=Aside0.mk (below_step HB.out hbel2);clear HB cm0 cm1 cm2 cm3;have HB:=n0_;clear n0_;have HK3:=Aside0.mk hb2;have HCS2:=Aside0.mk hcs2;clear hcs2 hg2 hb2 hbel2 hsz2)|((with_reducible refine gate_store (t:=138) (p:=8) rfl ?_);go_loud (refine block_store rfl rfl 138 (.tmp 8) (.tmp 21) rfl rfl (Value.agg #[Value.int .i64 rf,Value.int .i64 rt,Value.int .i64 ra,Value.bool rb]) rfl HK3.out (by rw [HCS2.out];rfl) (by rw [HCS2.out];kernel_rfl) (mirror_find.row_one _ _ _ _) ?_);go_loud (intro w6 hb6 hk6 hs6 hB6;have n0_:=Aside0.mk (hB6 _ _ HB.out HG2.out);clear HB;have HB:=n0_;clear n0_);go_loud (obtain ⟨d0,d1,d2,d3⟩:=mirror_find.row_cells w6 g2 _ _ _ _ hb6;clear HK3 hb6 hk6 hs6 hB6)))
     go_quiet (fail)
     all_goals (try go_wp2)
     go_ret3
     exact ⟨rfl,by repeat (first|(with_reducible first|exact HB.out|apply below_alloc|apply pw_below_drewN|apply below_drew1)|exact HB.out)⟩
    ·
     have b5:(Int.tmod ((a0 - rf) / ra) 2==0)=false:=beq_eq_false_iff_ne.2 c5
     rw [if_neg c5] at hv
     obtain ⟨rfl,rfl,rfl⟩:(2:Int)=r1∧a0 - ra=r2∧rb=r3:=by simpa using hv
     clear hv c5
     go_enter Try.func80,Try.ntmps80
     go_wp2_with (first|(go_at_call 101;refine (HROWS.out _).mono ?_;rintro e w1 ⟨rfl,hb1⟩;have HB:=Aside0.mk hb1;clear hb1)|((with_reducible refine gate_dst (N:=5) rfl ?_);refine alloc_event rfl 139 rfl 152 (by kernel_rfl) ?_;intro g w2 cs hcs hg hb hbel hsz;have HG:=Aside0.mk (show w.heap.size≤g by have:=HB.out.size;omega);have n0_:=Aside0.mk (below_step HB.out hbel);clear HB;have HB:=n0_;clear n0_;have HK1:=Aside0.mk hb;have HCS:=Aside0.mk hcs;clear hcs hg hb hbel hsz)|((with_reducible refine gate_store (t:=139) (p:=5) rfl ?_);refine block_store rfl rfl 139 (.tmp 5) (.tmp 10) rfl rfl (.agg al.toArray) rfl HK1.out (by rw [HCS.out];exact HSZ.out) (by rw [HCS.out];kernel_rfl) HONE.out ?_;intro w3 hb3 hk3 hs3 hB3;have n0_:=Aside0.mk (hB3 _ _ HB.out HG.out);clear HB;have HB:=n0_;clear n0_;have HK2:=Aside0.mk hb3;clear HK1 hb3 hk3 hs3 hB3;have HGW:=Aside0.mk (show g < w3.heap.size by obtain ⟨h_,_⟩:=Array.getElem?_eq_some_iff.1 HK2.out;exact h_))|(go_at_call 102;refine (HSE.out g _ _ HGW.out (fun j hj k v h_=>HBC.out _ g HK2.out j hj k v h_)).mono ?_;rintro e w4 ⟨rfl,hb4⟩;have HC4:=Aside0.mk (fun j hj k v h_=>(hb4.cell (p:=⟨g,j * 4+k,none⟩) HGW.out).trans (HBC.out _ g HK2.out j hj k v h_));have n0_:=Aside0.mk (below_step HB.out hb4);clear HB hb4 HK2;have HB:=n0_;clear n0_;have cm0:w4.cell? ⟨g,n * 4,none⟩=some (.int .i64 rf):=HC4.out n HN.out 0 _ (by rw [HR.out];rfl);have cm1:w4.cell? ⟨g,n * 4+1,none⟩=some (.int .i64 rt):=HC4.out n HN.out 1 _ (by rw [HR.out];rfl);have cm2:w4.cell? ⟨g,n * 4+2,none⟩=some (.int .i64 ra):=HC4.out n HN.out 2 _ (by rw [HR.out];rfl);have cm3:w4.cell? ⟨g,n * 4+3,none⟩=some (.bool rb):=HC4.out n HN.out 3 _ (by rw [HR.out];rfl);clear HC4)|((with_reducible refine gate_dst (N:=8) rfl ?_);refine alloc_event rfl 138 rfl 4 (by kernel_rfl) ?_;intro g2 w5 cs2 hcs2 hg2 hb2 hbel2 hsz2;have HG2:=Aside0.mk (show w.heap.size≤g2 by have:=HB.out.size;omega);have n0_:=Aside0.mk (below_step HB.out hbel2);clear HB cm0 cm1 cm2 cm3;have HB:=n0_;clear n0_;have HK3:=Aside0.mk hb2;have HCS2:=Aside0.mk hcs2;clear hcs2 hg2 hb2 hbel2 hsz2)|((with_reducible refine gate_store (t:=138) (p:=8) rfl ?_);go_loud (refine block_store rfl rfl 138 (.tmp 8) (.tmp 21) rfl rfl (Value.agg #[Value.int .i64 rf,Value.int .i64 rt,Value.int .i64 ra,Value.bool rb]) rfl HK3.out (by rw [HCS2.out];rfl) (by rw [HCS2.out];kernel_rfl) (mirror_find.row_one _ _ _ _) ?_);go_loud (intro w6 hb6 hk6 hs6 hB6;have n0_:=Aside0.mk (hB6 _ _ HB.out HG2.out);clear HB;have HB:=n0_;clear n0_);go_loud (obtain ⟨d0,d1,d2,d3⟩:=mirror_find.row_cells w6 g2 _ _ _ _ hb6;clear HK3 hb6 hk6 hs6 hB6)))
     go_quiet (fail)
     all_goals (try go_wp2)
     go_ret3
     exact ⟨rfl,by repeat (first|(with_reducible first|exact HB.out|apply below_alloc|apply pw_below_drewN|apply below_drew1)|exact HB.out)⟩
   ·
    have b2:(a0 - rf==0)=false:=beq_eq_false_iff_ne.2 c2
    have b2':(a0 - rf !=0)=true:=by rw [bne,b2];rfl
    by_cases c3:a0=rt
    ·
     rw [if_neg (fun h_=>h_.2.2.1 c3)] at hv
     have b3:(a0==rt)=true:=beq_iff_eq.2 c3
     have b3':(a0 !=rt)=false:=by rw [bne,b3];rfl
     clear c1 c2 c3
     by_cases c5:Int.tmod ((a0 - rf) / ra) 2=0
     ·
      have b5:(Int.tmod ((a0 - rf) / ra) 2==0)=true:=beq_iff_eq.2 c5
      rw [if_pos c5] at hv
      obtain ⟨rfl,rfl,rfl⟩:(1:Int)=r1∧a0+ra=r2∧rb=r3:=by simpa using hv
      clear hv c5
      go_enter Try.func80,Try.ntmps80
      go_wp2_with (first|(go_at_call 101;refine (HROWS.out _).mono ?_;rintro e w1 ⟨rfl,hb1⟩;have HB:=Aside0.mk hb1;clear hb1)|((with_reducible refine gate_dst (N:=5) rfl ?_);refine alloc_event rfl 139 rfl 152 (by kernel_rfl) ?_;intro g w2 cs hcs hg hb hbel hsz;have HG:=Aside0.mk (show w.heap.size≤g by have:=HB.out.size;omega);have n0_:=Aside0.mk (below_step HB.out hbel);clear HB;have HB:=n0_;clear n0_;have HK1:=Aside0.mk hb;have HCS:=Aside0.mk hcs;clear hcs hg hb hbel hsz)|((with_reducible refine gate_store (t:=139) (p:=5) rfl ?_);refine block_store rfl rfl 139 (.tmp 5) (.tmp 10) rfl rfl (.agg al.toArray) rfl HK1.out (by rw [HCS.out];exact HSZ.out) (by rw [HCS.out];kernel_rfl) HONE.out ?_;intro w3 hb3 hk3 hs3 hB3;have n0_:=Aside0.mk (hB3 _ _ HB.out HG.out);clear HB;have HB:=n0_;clear n0_;have HK2:=Aside0.mk hb3;clear HK1 hb3 hk3 hs3 hB3;have HGW:=Aside0.mk (show g < w3.heap.size by obtain ⟨h_,_⟩:=Array.getElem?_eq_some_iff.1 HK2.out;exact h_))|(go_at_call 102;refine (HSE.out g _ _ HGW.out (fun j hj k v h_=>HBC.out _ g HK2.out j hj k v h_)).mono ?_;rintro e w4 ⟨rfl,hb4⟩;have HC4:=Aside0.mk (fun j hj k v h_=>(hb4.cell (p:=⟨g,j * 4+k,none⟩) HGW.out).trans (HBC.out _ g HK2.out j hj k v h_));have n0_:=Aside0.mk (below_step HB.out hb4);clear HB hb4 HK2;have HB:=n0_;clear n0_;have cm0:w4.cell? ⟨g,n * 4,none⟩=some (.int .i64 rf):=HC4.out n HN.out 0 _ (by rw [HR.out];rfl);have cm1:w4.cell? ⟨g,n * 4+1,none⟩=some (.int .i64 rt):=HC4.out n HN.out 1 _ (by rw [HR.out];rfl);have cm2:w4.cell? ⟨g,n * 4+2,none⟩=some (.int .i64 ra):=HC4.out n HN.out 2 _ (by rw [HR.out];rfl);have cm3:w4.cell? ⟨g,n * 4+3,none⟩=some (.bool rb):=HC4.out n HN.out 3 _ (by rw [HR.out];rfl);clear HC4)|((with_reducible refine gate_dst (N:=8) rfl ?_);refine alloc_event rfl 138 rfl 4 (by kernel_rfl) ?_;intro g2 w5 cs2 hcs2 hg2 hb2 hbel2 hsz2;have HG2:=Aside0.mk (show w.heap.size≤g2 by have:=HB.out.size;omega);have n0_:=Aside0.mk (below_step HB.out hbel2);clear HB cm0 cm1 cm2 cm3;have HB:=n0_;clear n0_;have HK3:=Aside0.mk hb2;have HCS2:=Aside0.mk hcs2;clear hcs2 hg2 hb2 hbel2 hsz2)|((with_reducible refine gate_store (t:=138) (p:=8) rfl ?_);go_loud (refine block_store rfl rfl 138 (.tmp 8) (.tmp 21) rfl rfl (Value.agg #[Value.int .i64 rf,Value.int .i64 rt,Value.int .i64 ra,Value.bool rb]) rfl HK3.out (by rw [HCS2.out];rfl) (by rw [HCS2.out];kernel_rfl) (mirror_find.row_one _ _ _ _) ?_);go_loud (intro w6 hb6 hk6 hs6 hB6;have n0_:=Aside0.mk (hB6 _ _ HB.out HG2.out);clear HB;have HB:=n0_;clear n0_);go_loud (obtain ⟨d0,d1,d2,d3⟩:=mirror_find.row_cells w6 g2 _ _ _ _ hb6;clear HK3 hb6 hk6 hs6 hB6)))
      go_quiet (fail)
      all_goals (try go_wp2)
      go_ret3
      exact ⟨rfl,by repeat (first|(with_reducible first|exact HB.out|apply below_alloc|apply pw_below_drewN|apply below_drew1)|exact HB.out)⟩
     ·
      have b5:(Int.tmod ((a0 - rf) / ra) 2==0)=false:=beq_eq_false_iff_ne.2 c5
      rw [if_neg c5] at hv
      obtain ⟨rfl,rfl,rfl⟩:(2:Int)=r1∧a0 - ra=r2∧rb=r3:=by simpa using hv
      clear hv c5
      go_enter Try.func80,Try.ntmps80
      go_wp2_with (first|(go_at_call 101;refine (HROWS.out _).mono ?_;rintro e w1 ⟨rfl,hb1⟩;have HB:=Aside0.mk hb1;clear hb1)|((with_reducible refine gate_dst (N:=5) rfl ?_);refine alloc_event rfl 139 rfl 152 (by kernel_rfl) ?_;intro g w2 cs hcs hg hb hbel hsz;have HG:=Aside0.mk (show w.heap.size≤g by have:=HB.out.size;omega);have n0_:=Aside0.mk (below_step HB.out hbel);clear HB;have HB:=n0_;clear n0_;have HK1:=Aside0.mk hb;have HCS:=Aside0.mk hcs;clear hcs hg hb hbel hsz)|((with_reducible refine gate_store (t:=139) (p:=5) rfl ?_);refine block_store rfl rfl 139 (.tmp 5) (.tmp 10) rfl rfl (.agg al.toArray) rfl HK1.out (by rw [HCS.out];exact HSZ.out) (by rw [HCS.out];kernel_rfl) HONE.out ?_;intro w3 hb3 hk3 hs3 hB3;have n0_:=Aside0.mk (hB3 _ _ HB.out HG.out);clear HB;have HB:=n0_;clear n0_;have HK2:=Aside0.mk hb3;clear HK1 hb3 hk3 hs3 hB3;have HGW:=Aside0.mk (show g < w3.heap.size by obtain ⟨h_,_⟩:=Array.getElem?_eq_some_iff.1 HK2.out;exact h_))|(go_at_call 102;refine (HSE.out g _ _ HGW.out (fun j hj k v h_=>HBC.out _ g HK2.out j hj k v h_)).mono ?_;rintro e w4 ⟨rfl,hb4⟩;have HC4:=Aside0.mk (fun j hj k v h_=>(hb4.cell (p:=⟨g,j * 4+k,none⟩) HGW.out).trans (HBC.out _ g HK2.out j hj k v h_));have n0_:=Aside0.mk (below_step HB.out hb4);clear HB hb4 HK2;have HB:=n0_;clear n0_;have cm0:w4.cell? ⟨g,n * 4,none⟩=some (.int .i64 rf):=HC4.out n HN.out 0 _ (by rw [HR.out];rfl);have cm1:w4.cell? ⟨g,n * 4+1,none⟩=some (.int .i64 rt):=HC4.out n HN.out 1 _ (by rw [HR.out];rfl);have cm2:w4.cell? ⟨g,n * 4+2,none⟩=some (.int .i64 ra):=HC4.out n HN.out 2 _ (by rw [HR.out];rfl);have cm3:w4.cell? ⟨g,n * 4+3,none⟩=some (.bool rb):=HC4.out n HN.out 3 _ (by rw [HR.out];rfl);clear HC4)|((with_reducible refine gate_dst (N:=8) rfl ?_);refine alloc_event rfl 138 rfl 4 (by kernel_rfl) ?_;intro g2 w5 cs2 hcs2 hg2 hb2 hbel2 hsz2;have HG2:=Aside0.mk (show w.heap.size≤g2 by have:=HB.out.size;omega);have n0_:=Aside0.mk (below_step HB.out hbel2);clear HB cm0 cm1 cm2 cm3;have HB:=n0_;clear n0_;have HK3:=Aside0.mk hb2;have HCS2:=Aside0.mk hcs2;clear hcs2 hg2 hb2 hbel2 hsz2)|((with_reducible refine gate_store (t:=138) (p:=8) rfl ?_);go_loud (refine block_store rfl rfl 138 (.tmp 8) (.tmp 21) rfl rfl (Value.agg #[Value.int .i64 rf,Value.int .i64 rt,Value.int .i64 ra,Value.bool rb]) rfl HK3.out (by rw [HCS2.out];rfl) (by rw [HCS2.out];kernel_rfl) (mirror_find.row_one _ _ _ _) ?_);go_loud (intro w6 hb6 hk6 hs6 hB6;have n0_:=Aside0.mk (hB6 _ _ HB.out HG2.out);clear HB;have HB:=n0_;clear n0_);go_loud (obtain ⟨d0,d1,d2,d3⟩:=mirror_find.row_cells w6 g2 _ _ _ _ hb6;clear HK3 hb6 hk6 hs6 hB6)))
      go_quiet (fail)
      all_goals (try go_wp2)
      go_ret3
      exact ⟨rfl,by repeat (first|(with_reducible first|exact HB.out|apply below_alloc|apply pw_below_drewN|apply below_drew1)|exact HB.out)⟩
    ·
     have b3:(a0==rt)=false:=beq_eq_false_iff_ne.2 c3
     have b3':(a0 !=rt)=true:=by rw [bne,b3];rfl
     by_cases c4:rt - rf=ra
     ·
      rw [if_pos ⟨c1,c2,c3,c4⟩] at hv
      have b4:(rt - rf==ra)=true:=beq_iff_eq.2 c4
      obtain ⟨rfl,rfl,rfl⟩:(0:Int)=r1∧(0:Int)=r2∧false=r3:=by simpa using hv
      clear hv c1 c2 c3 c4
      go_enter Try.func80,Try.ntmps80
      go_wp2_with (first|(go_at_call 101;refine (HROWS.out _).mono ?_;rintro e w1 ⟨rfl,hb1⟩;have HB:=Aside0.mk hb1;clear hb1)|((with_reducible refine gate_dst (N:=5) rfl ?_);refine alloc_event rfl 139 rfl 152 (by kernel_rfl) ?_;intro g w2 cs hcs hg hb hbel hsz;have HG:=Aside0.mk (show w.heap.size≤g by have:=HB.out.size;omega);have n0_:=Aside0.mk (below_step HB.out hbel);clear HB;have HB:=n0_;clear n0_;have HK1:=Aside0.mk hb;have HCS:=Aside0.mk hcs;clear hcs hg hb hbel hsz)|((with_reducible refine gate_store (t:=139) (p:=5) rfl ?_);refine block_store rfl rfl 139 (.tmp 5) (.tmp 10) rfl rfl (.agg al.toArray) rfl HK1.out (by rw [HCS.out];exact HSZ.out) (by rw [HCS.out];kernel_rfl) HONE.out ?_;intro w3 hb3 hk3 hs3 hB3;have n0_:=Aside0.mk (hB3 _ _ HB.out HG.out);clear HB;have HB:=n0_;clear n0_;have HK2:=Aside0.mk hb3;clear HK1 hb3 hk3 hs3 hB3;have HGW:=Aside0.mk (show g < w3.heap.size by obtain ⟨h_,_⟩:=Array.getElem?_eq_some_iff.1 HK2.out;exact h_))|(go_at_call 102;refine (HSE.out g _ _ HGW.out (fun j hj k v h_=>HBC.out _ g HK2.out j hj k v h_)).mono ?_;rintro e w4 ⟨rfl,hb4⟩;have HC4:=Aside0.mk (fun j hj k v h_=>(hb4.cell (p:=⟨g,j * 4+k,none⟩) HGW.out).trans (HBC.out _ g HK2.out j hj k v h_));have n0_:=Aside0.mk (below_step HB.out hb4);clear HB hb4 HK2;have HB:=n0_;clear n0_;have cm0:w4.cell? ⟨g,n * 4,none⟩=some (.int .i64 rf):=HC4.out n HN.out 0 _ (by rw [HR.out];rfl);have cm1:w4.cell? ⟨g,n * 4+1,none⟩=some (.int .i64 rt):=HC4.out n HN.out 1 _ (by rw [HR.out];rfl);have cm2:w4.cell? ⟨g,n * 4+2,none⟩=some (.int .i64 ra):=HC4.out n HN.out 2 _ (by rw [HR.out];rfl);have cm3:w4.cell? ⟨g,n * 4+3,none⟩=some (.bool rb):=HC4.out n HN.out 3 _ (by rw [HR.out];rfl);clear HC4)|((with_reducible refine gate_dst (N:=8) rfl ?_);refine alloc_event rfl 138 rfl 4 (by kernel_rfl) ?_;intro g2 w5 cs2 hcs2 hg2 hb2 hbel2 hsz2;have HG2:=Aside0.mk (show w.heap.size≤g2 by have:=HB.out.size;omega);have n0_:=Aside0.mk (below_step HB.out hbel2);clear HB cm0 cm1 cm2 cm3;have HB:=n0_;clear n0_;have HK3:=Aside0.mk hb2;have HCS2:=Aside0.mk hcs2;clear hcs2 hg2 hb2 hbel2 hsz2)|((with_reducible refine gate_store (t:=138) (p:=8) rfl ?_);go_loud (refine block_store rfl rfl 138 (.tmp 8) (.tmp 21) rfl rfl (Value.agg #[Value.int .i64 rf,Value.int .i64 rt,Value.int .i64 ra,Value.bool rb]) rfl HK3.out (by rw [HCS2.out];rfl) (by rw [HCS2.out];kernel_rfl) (mirror_find.row_one _ _ _ _) ?_);go_loud (intro w6 hb6 hk6 hs6 hB6;have n0_:=Aside0.mk (hB6 _ _ HB.out HG2.out);clear HB;have HB:=n0_;clear n0_);go_loud (obtain ⟨d0,d1,d2,d3⟩:=mirror_find.row_cells w6 g2 _ _ _ _ hb6;clear HK3 hb6 hk6 hs6 hB6)))
      go_ret3
      exact ⟨rfl,by repeat (first|(with_reducible first|exact HB.out|apply below_alloc|apply pw_below_drewN|apply below_drew1)|exact HB.out)⟩
     ·
      rw [if_neg (fun h_=>c4 h_.2.2.2)] at hv
      have b4:(rt - rf==ra)=false:=beq_eq_false_iff_ne.2 c4
      clear c1 c2 c3 c4
      by_cases c5:Int.tmod ((a0 - rf) / ra) 2=0
      ·
       have b5:(Int.tmod ((a0 - rf) / ra) 2==0)=true:=beq_iff_eq.2 c5
       rw [if_pos c5] at hv
       obtain ⟨rfl,rfl,rfl⟩:(1:Int)=r1∧a0+ra=r2∧rb=r3:=by simpa using hv
       clear hv c5
       go_enter Try.func80,Try.ntmps80
       go_wp2_with (first|(go_at_call 101;refine (HROWS.out _).mono ?_;rintro e w1 ⟨rfl,hb1⟩;have HB:=Aside0.mk hb1;clear hb1)|((with_reducible refine gate_dst (N:=5) rfl ?_);refine alloc_event rfl 139 rfl 152 (by kernel_rfl) ?_;intro g w2 cs hcs hg hb hbel hsz;have HG:=Aside0.mk (show w.heap.size≤g by have:=HB.out.size;omega);have n0_:=Aside0.mk (below_step HB.out hbel);clear HB;have HB:=n0_;clear n0_;have HK1:=Aside0.mk hb;have HCS:=Aside0.mk hcs;clear hcs hg hb hbel hsz)|((with_reducible refine gate_store (t:=139) (p:=5) rfl ?_);refine block_store rfl rfl 139 (.tmp 5) (.tmp 10) rfl rfl (.agg al.toArray) rfl HK1.out (by rw [HCS.out];exact HSZ.out) (by rw [HCS.out];kernel_rfl) HONE.out ?_;intro w3 hb3 hk3 hs3 hB3;have n0_:=Aside0.mk (hB3 _ _ HB.out HG.out);clear HB;have HB:=n0_;clear n0_;have HK2:=Aside0.mk hb3;clear HK1 hb3 hk3 hs3 hB3;have HGW:=Aside0.mk (show g < w3.heap.size by obtain ⟨h_,_⟩:=Array.getElem?_eq_some_iff.1 HK2.out;exact h_))|(go_at_call 102;refine (HSE.out g _ _ HGW.out (fun j hj k v h_=>HBC.out _ g HK2.out j hj k v h_)).mono ?_;rintro e w4 ⟨rfl,hb4⟩;have HC4:=Aside0.mk (fun j hj k v h_=>(hb4.cell (p:=⟨g,j * 4+k,none⟩) HGW.out).trans (HBC.out _ g HK2.out j hj k v h_));have n0_:=Aside0.mk (below_step HB.out hb4);clear HB hb4 HK2;have HB:=n0_;clear n0_;have cm0:w4.cell? ⟨g,n * 4,none⟩=some (.int .i64 rf):=HC4.out n HN.out 0 _ (by rw [HR.out];rfl);have cm1:w4.cell? ⟨g,n * 4+1,none⟩=some (.int .i64 rt):=HC4.out n HN.out 1 _ (by rw [HR.out];rfl);have cm2:w4.cell? ⟨g,n * 4+2,none⟩=some (.int .i64 ra):=HC4.out n HN.out 2 _ (by rw [HR.out];rfl);have cm3:w4.cell? ⟨g,n * 4+3,none⟩=some (.bool rb):=HC4.out n HN.out 3 _ (by rw [HR.out];rfl);clear HC4)|((with_reducible refine gate_dst (N:=8) rfl ?_);refine alloc_event rfl 138 rfl 4 (by kernel_rfl) ?_;intro g2 w5 cs2 hcs2 hg2 hb2 hbel2 hsz2;have HG2:=Aside0.mk (show w.heap.size≤g2 by have:=HB.out.size;omega);have n0_:=Aside0.mk (below_step HB.out hbel2);clear HB cm0 cm1 cm2 cm3;have HB:=n0_;clear n0_;have HK3:=Aside0.mk hb2;have HCS2:=Aside0.mk hcs2;clear hcs2 hg2 hb2 hbel2 hsz2)|((with_reducible refine gate_store (t:=138) (p:=8) rfl ?_);go_loud (refine block_store rfl rfl 138 (.tmp 8) (.tmp 21) rfl rfl (Value.agg #[Value.int .i64 rf,Value.int .i64 rt,Value.int .i64 ra,Value.bool rb]) rfl HK3.out (by rw [HCS2.out];rfl) (by rw [HCS2.out];kernel_rfl) (mirror_find.row_one _ _ _ _) ?_);go_loud (intro w6 hb6 hk6 hs6 hB6;have n0_:=Aside0.mk (hB6 _ _ HB.out HG2.out);clear HB;have HB:=n0_;clear n0_);go_loud (obtain ⟨d0,d1,d2,d3⟩:=mirror_find.row_cells w6 g2 _ _ _ _ hb6;clear HK3 hb6 hk6 hs6 hB6)))
       go_quiet (fail)
       all_goals (try go_wp2)
       go_ret3
       exact ⟨rfl,by repeat (first|(with_reducible first|exact HB.out|apply below_alloc|apply pw_below_drewN|apply below_drew1)|exact HB.out)⟩
      ·
       have b5:(Int.tmod ((a0 - rf) / ra) 2==0)=false:=beq_eq_false_iff_ne.2 c5
       rw [if_neg c5] at hv
       obtain ⟨rfl,rfl,rfl⟩:(2:Int)=r1∧a0 - ra=r2∧rb=r3:=by simpa using hv
       clear hv c5
       go_enter Try.func80,Try.ntmps80
       go_wp2_with (first|(go_at_call 101;refine (HROWS.out _).mono ?_;rintro e w1 ⟨rfl,hb1⟩;have HB:=Aside0.mk hb1;clear hb1)|((with_reducible refine gate_dst (N:=5) rfl ?_);refine alloc_event rfl 139 rfl 152 (by kernel_rfl) ?_;intro g w2 cs hcs hg hb hbel hsz;have HG:=Aside0.mk (show w.heap.size≤g by have:=HB.out.size;omega);have n0_:=Aside0.mk (below_step HB.out hbel);clear HB;have HB:=n0_;clear n0_;have HK1:=Aside0.mk hb;have HCS:=Aside0.mk hcs;clear hcs hg hb hbel hsz)|((with_reducible refine gate_store (t:=139) (p:=5) rfl ?_);refine block_store rfl rfl 139 (.tmp 5) (.tmp 10) rfl rfl (.agg al.toArray) rfl HK1.out (by rw [HCS.out];exact HSZ.out) (by rw [HCS.out];kernel_rfl) HONE.out ?_;intro w3 hb3 hk3 hs3 hB3;have n0_:=Aside0.mk (hB3 _ _ HB.out HG.out);clear HB;have HB:=n0_;clear n0_;have HK2:=Aside0.mk hb3;clear HK1 hb3 hk3 hs3 hB3;have HGW:=Aside0.mk (show g < w3.heap.size by obtain ⟨h_,_⟩:=Array.getElem?_eq_some_iff.1 HK2.out;exact h_))|(go_at_call 102;refine (HSE.out g _ _ HGW.out (fun j hj k v h_=>HBC.out _ g HK2.out j hj k v h_)).mono ?_;rintro e w4 ⟨rfl,hb4⟩;have HC4:=Aside0.mk (fun j hj k v h_=>(hb4.cell (p:=⟨g,j * 4+k,none⟩) HGW.out).trans (HBC.out _ g HK2.out j hj k v h_));have n0_:=Aside0.mk (below_step HB.out hb4);clear HB hb4 HK2;have HB:=n0_;clear n0_;have cm0:w4.cell? ⟨g,n * 4,none⟩=some (.int .i64 rf):=HC4.out n HN.out 0 _ (by rw [HR.out];rfl);have cm1:w4.cell? ⟨g,n * 4+1,none⟩=some (.int .i64 rt):=HC4.out n HN.out 1 _ (by rw [HR.out];rfl);have cm2:w4.cell? ⟨g,n * 4+2,none⟩=some (.int .i64 ra):=HC4.out n HN.out 2 _ (by rw [HR.out];rfl);have cm3:w4.cell? ⟨g,n * 4+3,none⟩=some (.bool rb):=HC4.out n HN.out 3 _ (by rw [HR.out];rfl);clear HC4)|((with_reducible refine gate_dst (N:=8) rfl ?_);refine alloc_event rfl 138 rfl 4 (by kernel_rfl) ?_;intro g2 w5 cs2 hcs2 hg2 hb2 hbel2 hsz2;have HG2:=Aside0.mk (show w.heap.size≤g2 by have:=HB.out.size;omega);have n0_:=Aside0.mk (below_step HB.out hbel2);clear HB cm0 cm1 cm2 cm3;have HB:=n0_;clear n0_;have HK3:=Aside0.mk hb2;have HCS2:=Aside0.mk hcs2;clear hcs2 hg2 hb2 hbel2 hsz2)|((with_reducible refine gate_store (t:=138) (p:=8) rfl ?_);go_loud (refine block_store rfl rfl 138 (.tmp 8) (.tmp 21) rfl rfl (Value.agg #[Value.int .i64 rf,Value.int .i64 rt,Value.int .i64 ra,Value.bool rb]) rfl HK3.out (by rw [HCS2.out];rfl) (by rw [HCS2.out];kernel_rfl) (mirror_find.row_one _ _ _ _) ?_);go_loud (intro w6 hb6 hk6 hs6 hB6;have n0_:=Aside0.mk (hB6 _ _ HB.out HG2.out);clear HB;have HB:=n0_;clear n0_);go_loud (obtain ⟨d0,d1,d2,d3⟩:=mirror_find.row_cells w6 g2 _ _ _ _ hb6;clear HK3 hb6 hk6 hs6 hB6)))
       go_quiet (fail)
       all_goals (try go_wp2)
       go_ret3
       exact ⟨rfl,by repeat (first|(with_reducible first|exact HB.out|apply below_alloc|apply pw_below_drewN|apply below_drew1)|exact HB.out)⟩
  ·
   have b1:decide (1 < ra)=false:=decide_eq_false c1
   rw [if_neg (fun h_=>c1 h_.1)] at hv
   clear c1
   by_cases c5:Int.tmod ((a0 - rf) / ra) 2=0
   ·
    have b5:(Int.tmod ((a0 - rf) / ra) 2==0)=true:=beq_iff_eq.2 c5
    rw [if_pos c5] at hv
    obtain ⟨rfl,rfl,rfl⟩:(1:Int)=r1∧a0+ra=r2∧rb=r3:=by simpa using hv
    clear hv c5
    go_enter Try.func80,Try.ntmps80
    go_wp2_with (first|(go_at_call 101;refine (HROWS.out _).mono ?_;rintro e w1 ⟨rfl,hb1⟩;have HB:=Aside0.mk hb1;clear hb1)|((with_reducible refine gate_dst (N:=5) rfl ?_);refine alloc_event rfl 139 rfl 152 (by kernel_rfl) ?_;intro g w2 cs hcs hg hb hbel hsz;have HG:=Aside0.mk (show w.heap.size≤g by have:=HB.out.size;omega);have n0_:=Aside0.mk (below_step HB.out hbel);clear HB;have HB:=n0_;clear n0_;have HK1:=Aside0.mk hb;have HCS:=Aside0.mk hcs;clear hcs hg hb hbel hsz)|((with_reducible refine gate_store (t:=139) (p:=5) rfl ?_);refine block_store rfl rfl 139 (.tmp 5) (.tmp 10) rfl rfl (.agg al.toArray) rfl HK1.out (by rw [HCS.out];exact HSZ.out) (by rw [HCS.out];kernel_rfl) HONE.out ?_;intro w3 hb3 hk3 hs3 hB3;have n0_:=Aside0.mk (hB3 _ _ HB.out HG.out);clear HB;have HB:=n0_;clear n0_;have HK2:=Aside0.mk hb3;clear HK1 hb3 hk3 hs3 hB3;have HGW:=Aside0.mk (show g < w3.heap.size by obtain ⟨h_,_⟩:=Array.getElem?_eq_some_iff.1 HK2.out;exact h_))|(go_at_call 102;refine (HSE.out g _ _ HGW.out (fun j hj k v h_=>HBC.out _ g HK2.out j hj k v h_)).mono ?_;rintro e w4 ⟨rfl,hb4⟩;have HC4:=Aside0.mk (fun j hj k v h_=>(hb4.cell (p:=⟨g,j * 4+k,none⟩) HGW.out).trans (HBC.out _ g HK2.out j hj k v h_));have n0_:=Aside0.mk (below_step HB.out hb4);clear HB hb4 HK2;have HB:=n0_;clear n0_;have cm0:w4.cell? ⟨g,n * 4,none⟩=some (.int .i64 rf):=HC4.out n HN.out 0 _ (by rw [HR.out];rfl);have cm1:w4.cell? ⟨g,n * 4+1,none⟩=some (.int .i64 rt):=HC4.out n HN.out 1 _ (by rw [HR.out];rfl);have cm2:w4.cell? ⟨g,n * 4+2,none⟩=some (.int .i64 ra):=HC4.out n HN.out 2 _ (by rw [HR.out];rfl);have cm3:w4.cell? ⟨g,n * 4+3,none⟩=some (.bool rb):=HC4.out n HN.out 3 _ (by rw [HR.out];rfl);clear HC4)|((with_reducible refine gate_dst (N:=8) rfl ?_);refine alloc_event rfl 138 rfl 4 (by kernel_rfl) ?_;intro g2 w5 cs2 hcs2 hg2 hb2 hbel2 hsz2;have HG2:=Aside0.mk (show w.heap.size≤g2 by have:=HB.out.size;omega);have n0_:=Aside0.mk (below_step HB.out hbel2);clear HB cm0 cm1 cm2 cm3;have HB:=n0_;clear n0_;have HK3:=Aside0.mk hb2;have HCS2:=Aside0.mk hcs2;clear hcs2 hg2 hb2 hbel2 hsz2)|((with_reducible refine gate_store (t:=138) (p:=8) rfl ?_);go_loud (refine block_store rfl rfl 138 (.tmp 8) (.tmp 21) rfl rfl (Value.agg #[Value.int .i64 rf,Value.int .i64 rt,Value.int .i64 ra,Value.bool rb]) rfl HK3.out (by rw [HCS2.out];rfl) (by rw [HCS2.out];kernel_rfl) (mirror_find.row_one _ _ _ _) ?_);go_loud (intro w6 hb6 hk6 hs6 hB6;have n0_:=Aside0.mk (hB6 _ _ HB.out HG2.out);clear HB;have HB:=n0_;clear n0_);go_loud (obtain ⟨d0,d1,d2,d3⟩:=mirror_find.row_cells w6 g2 _ _ _ _ hb6;clear HK3 hb6 hk6 hs6 hB6)))
    go_quiet (fail)
    all_goals (try go_wp2)
    go_ret3
    exact ⟨rfl,by repeat (first|(with_reducible first|exact HB.out|apply below_alloc|apply pw_below_drewN|apply below_drew1)|exact HB.out)⟩
   ·
    have b5:(Int.tmod ((a0 - rf) / ra) 2==0)=false:=beq_eq_false_iff_ne.2 c5
    rw [if_neg c5] at hv
    obtain ⟨rfl,rfl,rfl⟩:(2:Int)=r1∧a0 - ra=r2∧rb=r3:=by simpa using hv
    clear hv c5
    go_enter Try.func80,Try.ntmps80
    go_wp2_with (first|(go_at_call 101;refine (HROWS.out _).mono ?_;rintro e w1 ⟨rfl,hb1⟩;have HB:=Aside0.mk hb1;clear hb1)|((with_reducible refine gate_dst (N:=5) rfl ?_);refine alloc_event rfl 139 rfl 152 (by kernel_rfl) ?_;intro g w2 cs hcs hg hb hbel hsz;have HG:=Aside0.mk (show w.heap.size≤g by have:=HB.out.size;omega);have n0_:=Aside0.mk (below_step HB.out hbel);clear HB;have HB:=n0_;clear n0_;have HK1:=Aside0.mk hb;have HCS:=Aside0.mk hcs;clear hcs hg hb hbel hsz)|((with_reducible refine gate_store (t:=139) (p:=5) rfl ?_);refine block_store rfl rfl 139 (.tmp 5) (.tmp 10) rfl rfl (.agg al.toArray) rfl HK1.out (by rw [HCS.out];exact HSZ.out) (by rw [HCS.out];kernel_rfl) HONE.out ?_;intro w3 hb3 hk3 hs3 hB3;have n0_:=Aside0.mk (hB3 _ _ HB.out HG.out);clear HB;have HB:=n0_;clear n0_;have HK2:=Aside0.mk hb3;clear HK1 hb3 hk3 hs3 hB3;have HGW:=Aside0.mk (show g < w3.heap.size by obtain ⟨h_,_⟩:=Array.getElem?_eq_some_iff.1 HK2.out;exact h_))|(go_at_call 102;refine (HSE.out g _ _ HGW.out (fun j hj k v h_=>HBC.out _ g HK2.out j hj k v h_)).mono ?_;rintro e w4 ⟨rfl,hb4⟩;have HC4:=Aside0.mk (fun j hj k v h_=>(hb4.cell (p:=⟨g,j * 4+k,none⟩) HGW.out).trans (HBC.out _ g HK2.out j hj k v h_));have n0_:=Aside0.mk (below_step HB.out hb4);clear HB hb4 HK2;have HB:=n0_;clear n0_;have cm0:w4.cell? ⟨g,n * 4,none⟩=some (.int .i64 rf):=HC4.out n HN.out 0 _ (by rw [HR.out];rfl);have cm1:w4.cell? ⟨g,n * 4+1,none⟩=some (.int .i64 rt):=HC4.out n HN.out 1 _ (by rw [HR.out];rfl);have cm2:w4.cell? ⟨g,n * 4+2,none⟩=some (.int .i64 ra):=HC4.out n HN.out 2 _ (by rw [HR.out];rfl);have cm3:w4.cell? ⟨g,n * 4+3,none⟩=some (.bool rb):=HC4.out n HN.out 3 _ (by rw [HR.out];rfl);clear HC4)|((with_reducible refine gate_dst (N:=8) rfl ?_);refine alloc_event rfl 138 rfl 4 (by kernel_rfl) ?_;intro g2 w5 cs2 hcs2 hg2 hb2 hbel2 hsz2;have HG2:=Aside0.mk (show w.heap.size≤g2 by have:=HB.out.size;omega);have n0_:=Aside0.mk (below_step HB.out hbel2);clear HB cm0 cm1 cm2 cm3;have HB:=n0_;clear n0_;have HK3:=Aside0.mk hb2;have HCS2:=Aside0.mk hcs2;clear hcs2 hg2 hb2 hbel2 hsz2)|((with_reducible refine gate_store (t:=138) (p:=8) rfl ?_);go_loud (refine block_store rfl rfl 138 (.tmp 8) (.tmp 21) rfl rfl (Value.agg #[Value.int .i64 rf,Value.int .i64 rt,Value.int .i64 ra,Value.bool rb]) rfl HK3.out (by rw [HCS2.out];rfl) (by rw [HCS2.out];kernel_rfl) (mirror_find.row_one _ _ _ _) ?_);go_loud (intro w6 hb6 hk6 hs6 hB6;have n0_:=Aside0.mk (hB6 _ _ HB.out HG2.out);clear HB;have HB:=n0_;clear n0_);go_loud (obtain ⟨d0,d1,d2,d3⟩:=mirror_find.row_cells w6 g2 _ _ _ _ hb6;clear HK3 hb6 hk6 hs6 hB6)))
    go_quiet (fail)
    all_goals (try go_wp2)
    go_ret3
    exact ⟨rfl,by repeat (first|(with_reducible first|exact HB.out|apply below_alloc|apply pw_below_drewN|apply below_drew1)|exact HB.out)⟩
 ·
  have hd:decide (n < 38∧(R n).f≤a0)=false:=decide_eq_false hf
  rw [hd] at hse
  have HSE:=Aside0.mk hse
  rw [if_neg hf] at hv
  obtain ⟨rfl,rfl,rfl⟩:(0:Int)=r1∧(0:Int)=r2∧false=r3:=by simpa using hv
  clear hse hd hf hv hfa hhe
  go_enter Try.func80,Try.ntmps80
  go_wp2_with (first|(go_at_call 101;refine (HROWS.out _).mono ?_;rintro e w1 ⟨rfl,hb1⟩;have HB:=Aside0.mk hb1;clear hb1)|((with_reducible refine gate_dst (N:=5) rfl ?_);refine alloc_event rfl 139 rfl 152 (by kernel_rfl) ?_;intro g w2 cs hcs hg hb hbel hsz;have HG:=Aside0.mk (show w.heap.size≤g by have:=HB.out.size;omega);have n0_:=Aside0.mk (below_step HB.out hbel);clear HB;have HB:=n0_;clear n0_;have HK1:=Aside0.mk hb;have HCS:=Aside0.mk hcs;clear hcs hg hb hbel hsz)|((with_reducible refine gate_store (t:=139) (p:=5) rfl ?_);refine block_store rfl rfl 139 (.tmp 5) (.tmp 10) rfl rfl (.agg al.toArray) rfl HK1.out (by rw [HCS.out];exact HSZ.out) (by rw [HCS.out];kernel_rfl) HONE.out ?_;intro w3 hb3 hk3 hs3 hB3;have n0_:=Aside0.mk (hB3 _ _ HB.out HG.out);clear HB;have HB:=n0_;clear n0_;have HK2:=Aside0.mk hb3;clear HK1 hb3 hk3 hs3 hB3;have HGW:=Aside0.mk (show g < w3.heap.size by obtain ⟨h_,_⟩:=Array.getElem?_eq_some_iff.1 HK2.out;exact h_))|(go_at_call 102;refine (HSE.out g _ _ HGW.out (fun j hj k v h_=>HBC.out _ g HK2.out j hj k v h_)).mono ?_;rintro e w4 ⟨rfl,hb4⟩;have HC4:=Aside0.mk (fun j hj k v h_=>(hb4.cell (p:=⟨g,j * 4+k,none⟩) HGW.out).trans (HBC.out _ g HK2.out j hj k v h_));have n0_:=Aside0.mk (below_step HB.out hb4);clear HB hb4 HK2;have HB:=n0_;clear n0_))
  go_ret3
  exact ⟨rfl,HB.out⟩
end
/-! ### mirror_Glyph:function 52 -/
def mirror_Glyph.f (a0:Int):Option (Int):=(mirror_find.f a0).bind fun bt181=>(if bt181.1 > 0 then (some bt181.2.1) else (some a0))
set_option maxHeartbeats 8000000 in
set_option maxRecDepth 100000 in
theorem mirror_Glyph.calls (a0:Int) (r:Int) (w:World) (h:mirror_Glyph.f a0=some r) :
  Calls Try.prog 52 #[.int .i64 a0] w fun e w'=>e= .returned (.int .i64 r)∧Below w.heap.size w w':=by
 have HB:=Aside0.mk (Below.refl w.heap.size w)
 have H:((mirror_find.f a0).bind fun bt181=>(if bt181.1 > 0 then (some bt181.2.1) else (some a0)))=some r:=h
 clear h
 replace H:=Option.bind_eq_some_iff.mp H
 obtain ⟨⟨t181,t182,t183⟩,A20,H⟩:=H
 replace H:(if t181 > 0 then (some t182) else (some a0))=some r:=H
 have A2:=Aside0.mk A20
 clear A20
 by_cases c3:t181 > 0
 ·
  rw [if_pos c3] at H
  have c3b0:decide (0 < t181)=true:=decide_eq_true c3
  clear c3
  obtain rfl:=Option.some.inj H
  go_enter Try.func52,Try.ntmps52
  go_wp2_with (first|((with_reducible refine gate_callee (f:=80) rfl ?_);refine goesL_ (some 8) rfl rfl Try.func80 (by kernel_rfl) rfl #[.int .i64 a0] rfl (by (try simp only [List.map_toArray,List.map_cons,List.map_nil]);first|done|rfl|(simp only [List.length_drop,List.length_take];rfl)) ?_;(with_reducible refine (mirror_find.calls a0 t181 t182 t183 _ A2.out).mono ?_);rintro e w4 ⟨rfl,hb⟩;refine ⟨_,rfl,?_⟩;have n0_:=Aside0.mk (below_step (by repeat (first|(with_reducible first|exact HB.out|apply below_alloc|apply pw_below_drewN|apply below_drew1)|exact HB.out)) hb);clear HB;have HB:=n0_;clear n0_;(try clear hb);(try clear hb2);(try clear hk);(try clear hi)))
  go_ret
  exact ⟨by first|rfl|(simp [errW_none,errW_some] <;> rfl)|(simp [*,errW_none,errW_some] <;> rfl),by repeat (first|(with_reducible first|exact HB.out|apply below_alloc|apply pw_below_drewN|apply below_drew1)|exact HB.out)⟩
 ·
  rw [if_neg c3] at H
  have c3b0:decide (0 < t181)=false:=decide_eq_false c3
  clear c3
  obtain rfl:=Option.some.inj H
  go_enter Try.func52,Try.ntmps52
  go_wp2_with (first|((with_reducible refine gate_callee (f:=80) rfl ?_);refine goesL_ (some 8) rfl rfl Try.func80 (by kernel_rfl) rfl #[.int .i64 a0] rfl (by (try simp only [List.map_toArray,List.map_cons,List.map_nil]);first|done|rfl|(simp only [List.length_drop,List.length_take];rfl)) ?_;(with_reducible refine (mirror_find.calls a0 t181 t182 t183 _ A2.out).mono ?_);rintro e w5 ⟨rfl,hb⟩;refine ⟨_,rfl,?_⟩;have n0_:=Aside0.mk (below_step (by repeat (first|(with_reducible first|exact HB.out|apply below_alloc|apply pw_below_drewN|apply below_drew1)|exact HB.out)) hb);clear HB;have HB:=n0_;clear n0_;(try clear hb);(try clear hb2);(try clear hk);(try clear hi)))
  go_ret
  exact ⟨by first|rfl|(simp [errW_none,errW_some] <;> rfl)|(simp [*,errW_none,errW_some] <;> rfl),by repeat (first|(with_reducible first|exact HB.out|apply below_alloc|apply pw_below_drewN|apply below_drew1)|exact HB.out)⟩
/-! ### bidi_Shown:function 34 -/
def bidi_Shown.f (a0:Int) (a1:Int):Option (Int):=if (Go.bits .and .i64 a1 1)=1 then ((mirror_Glyph.f a0).bind fun t184=>(some t184)) else (some a0)
set_option maxHeartbeats 8000000 in
set_option maxRecDepth 100000 in
theorem bidi_Shown.calls (a0:Int) (a1:Int) (r:Int) (w:World) (h:bidi_Shown.f a0 a1=some r) :
  Calls Try.prog 34 #[.int .i64 a0,.int .i64 a1] w fun e w'=>e= .returned (.int .i64 r)∧Below w.heap.size w w':=by
 have HB:=Aside0.mk (Below.refl w.heap.size w)
 have H:(if (Go.bits .and .i64 a1 1)=1 then ((mirror_Glyph.f a0).bind fun t184=>(some t184)) else (some a0))=some r:=h
 clear h
 by_cases c3:(Go.bits .and .i64 a1 1)=1
 ·
  rw [if_pos c3] at H
  have c3b0:((Go.bits .and .i64 a1 1)==1)=true:=beq_iff_eq.mpr c3
  have c3b1:((Go.bits .and .i64 a1 1) !=1)=false:=bne_eq_false_iff_eq.mpr c3
  clear c3
  replace H:=Option.bind_eq_some_iff.mp H
  obtain ⟨t184,A40,H⟩:=H
  replace H:(some t184)=some r:=H
  have A4:=Aside0.mk A40
  clear A40
  obtain rfl:=Option.some.inj H
  go_enter Try.func34,Try.ntmps34
  go_wp2_with (first|((with_reducible refine gate_callee (f:=52) rfl ?_);refine goesL_ (some 9) rfl rfl Try.func52 (by kernel_rfl) rfl #[.int .i64 a0] rfl (by (try simp only [List.map_toArray,List.map_cons,List.map_nil]);first|done|rfl|(simp only [List.length_drop,List.length_take];rfl)) ?_;(with_reducible refine (mirror_Glyph.calls a0 t184 _ A4.out).mono ?_);rintro e w5 ⟨rfl,hb⟩;refine ⟨_,rfl,?_⟩;have n0_:=Aside0.mk (below_step (by repeat (first|(with_reducible first|exact HB.out|apply below_alloc|apply pw_below_drewN|apply below_drew1)|exact HB.out)) hb);clear HB;have HB:=n0_;clear n0_;(try clear hb);(try clear hb2);(try clear hk);(try clear hi)))
  go_ret
  exact ⟨by first|rfl|(simp [errW_none,errW_some] <;> rfl)|(simp [*,errW_none,errW_some] <;> rfl),by repeat (first|(with_reducible first|exact HB.out|apply below_alloc|apply pw_below_drewN|apply below_drew1)|exact HB.out)⟩
 ·
  rw [if_neg c3] at H
  have c3b0:((Go.bits .and .i64 a1 1)==1)=false:=beq_eq_false_iff_ne.mpr c3
  have c3b1:((Go.bits .and .i64 a1 1) !=1)=true:=bne_iff_ne.mpr c3
  obtain rfl:=Option.some.inj H
  go_enter Try.func34,Try.ntmps34
  go_wp2
  go_ret
  exact ⟨by first|rfl|(simp [errW_none,errW_some] <;> rfl)|(simp [*,errW_none,errW_some] <;> rfl),by repeat (first|(with_reducible first|exact HB.out|apply below_alloc|apply pw_below_drewN|apply below_drew1)|exact HB.out)⟩
end Go.Proofs.Yteoaegigjlhamaa.PC19
