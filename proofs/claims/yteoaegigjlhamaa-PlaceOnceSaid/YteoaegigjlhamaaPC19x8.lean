/- For the laws of the group C19: the Lean functions that the Go functions compute, and proofs that they do. Written by wip/hprint.py of this repo over the kit's printer; nothing here is trusted: Lean checks it. -/
import Derived.Test.YteoaegigjlhamaaPC19x0
import Derived.Test.YteoaegigjlhamaaPC19x7
namespace Go.Proofs.Yteoaegigjlhamaa.PC19
open Go.RowKit Go.Proofs.YteoaegigjlhamaaW.PrintWords Go.Proofs.YteoaegigjlhamaaW.PrintLast Go.Proofs.YteoaegigjlhamaaW.PrintMore
attribute [local go_sem] max2_int min2_int max_two min_two max_three min_three max_four min_four
set_option linter.unusedVariables false
set_option linter.unusedSimpArgs false
/-! ### bidi_Line:function 31:by hand -/
def bidi_Line.go:List (S36 × Int)→Int→List Int × Bool
 | [],_=>([],true)
 | x::r,p=>let q:=bidi_Line.go r p;let c:=class_Of.val x.1.f2;let e:=decide (c=11) || decide (c=10) || q.2 && ((bidi_blank.f c).getD false);((if e then p else x.2)::q.1,e)
def bidi_Line.f (l0:List S36) (l1:List Int) (a2:Int):Option (List Int):=if l0.length=l1.length∧l0.length < 1000000 then some (bidi_Line.go (l0.zip l1) a2).1 else none
section
open Go.Proofs.YteoaegigjlhamaaH
def bidi_Line.bk (N:Nat):(n:Nat)→n≤N→List (Fin N)
 | 0,_=>[]
 | n+1,h=>⟨n,h⟩::bidi_Line.bk N n (Nat.le_of_succ_le h)
def bidi_Line.enc (l:List S36) (y:Fin l.length):Array Value:= #[.int .i64 (y.val:Int),.agg #[.int .i64 (rd_T36 l (y.val:Int)).f0,.int .i64 (rd_T36 l (y.val:Int)).f1,.int .i64 (rd_T36 l (y.val:Int)).f2]]
def bidi_Line.KP (B bp:Nat) (X Y:World):Prop:=Below B X Y∧ ∀ o,X.heap[bp]?=some o→Y.heap[bp]?=some o
theorem bidi_Line.KP_t {B bp:Nat} {X Y Z:World} (h:bidi_Line.KP B bp X Y) (g:bidi_Line.KP B bp Y Z):bidi_Line.KP B bp X Z:=⟨h.1.trans g.1,fun o ho=>g.2 o (h.2 o ho)⟩
theorem bidi_Line.KP_b {B bp:Nat} {W0:World} (hB:B≤W0.heap.size) (hbp:bp < W0.heap.size) (W:World) (l:Nat) (o o':Obj) (hl:W0.heap.size≤l) (h:W.heap[l]?=some o) (h1:o.isCells=false) (h2:o.isWalk=false):bidi_Line.KP B bp W (W.putObj l o') :=
 ⟨belowK_b (w:=W0) hB W l o o' hl h h1 h2,fun q hq=>(World.putObj_heap_other (by omega)).trans hq⟩
def bidi_Line.add (p:Int) (l:List S36) (s:List Int × Bool) (x:Fin l.length):List Int × Bool :=
 let c:=class_Of.val (rd_T36 l (x.val:Int)).f2
 let e:=decide (c=11) || decide (c=10) || s.2 && ((bidi_blank.f c).getD false)
 (if e then s.1.set x.val p else s.1,e)
def bidi_Line.all (p:Int) (l:List S36) (l1:List Int) (ps:List (Fin l.length)):List Int × Bool:=ps.foldl (bidi_Line.add p l) (l1,true)
theorem bidi_Line.all_snoc (p:Int) (l:List S36) (l1:List Int) (ps:List (Fin l.length)) (x:Fin l.length):bidi_Line.all p l l1 (ps++[x])=bidi_Line.add p l (bidi_Line.all p l l1 ps) x:=by simp [bidi_Line.all,List.foldl_append]
theorem bidi_Line.add_len (p:Int) (l:List S36) (s:List Int × Bool) (x:Fin l.length):(bidi_Line.add p l s x).1.length=s.1.length:=by
 unfold bidi_Line.add
 dsimp only
 split <;> simp
theorem bidi_Line.fold_len (p:Int) (l:List S36): ∀ (ps:List (Fin l.length)) (s:List Int × Bool),(ps.foldl (bidi_Line.add p l) s).1.length=s.1.length
 | [],_=>rfl
 | x::ps,s=>by rw [List.foldl_cons,bidi_Line.fold_len p l ps,bidi_Line.add_len]
theorem bidi_Line.all_len (p:Int) (l:List S36) (l1:List Int) (ps:List (Fin l.length)):(bidi_Line.all p l l1 ps).1.length=l1.length:=bidi_Line.fold_len p l ps _
theorem bidi_Line.fin (p:Int) (l0:List S36) (l1:List Int) (hl:l0.length=l1.length): ∀ n (h:n≤l0.length),
  (bidi_Line.bk l0.length n h).foldl (bidi_Line.add p l0) (l1.take n++(bidi_Line.go ((l0.drop n).zip (l1.drop n)) p).1,(bidi_Line.go ((l0.drop n).zip (l1.drop n)) p).2)=bidi_Line.go (l0.zip l1) p
 | 0,_=>by simp [bidi_Line.bk]
 | n+1,h=>by
  have h0:n < l0.length:=h
  have h1:n < l1.length:=by omega
  have e0:rd_T36 l0 (n:Int)=l0[n]:=by
   unfold rd_T36
   rw [Int.toNat_natCast,List.getD_eq_getElem?_getD,List.getElem?_eq_getElem h0]
   rfl
  rw [← bidi_Line.fin p l0 l1 hl n (by omega),bidi_Line.bk,List.foldl_cons]
  congr 1
  rw [List.drop_eq_getElem_cons h0,List.drop_eq_getElem_cons h1,List.zip_cons_cons,bidi_Line.go]
  unfold bidi_Line.add
  dsimp only
  rw [e0,List.take_add_one,List.getElem?_eq_getElem h1]
  have hs:(l1.take n++(some l1[n]).toList++(bidi_Line.go ((l0.drop (n+1)).zip (l1.drop (n+1))) p).1).set n p=l1.take n++p::(bidi_Line.go ((l0.drop (n+1)).zip (l1.drop (n+1))) p).1:=by
   have ht:(l1.take n).length=n:=by rw [List.length_take];omega
   rw [List.append_assoc,List.set_append_right _ _ (by rw [ht];exact Nat.le_refl _),ht,Nat.sub_self]
   rfl
  rw [hs]
  generalize (decide (class_Of.val l0[n].f2=11) || decide (class_Of.val l0[n].f2=10) || (bidi_Line.go ((l0.drop (n+1)).zip (l1.drop (n+1))) p).2 && ((bidi_blank.f (class_Of.val l0[n].f2)).getD false))=e
  cases e with
  | false=>exact congrArg (fun z=>(z,false)) (by rw [List.append_assoc];rfl)
  | true=>rfl
theorem bidi_Line.all_go (p:Int) (l0:List S36) (l1:List Int) (hl:l0.length=l1.length):bidi_Line.all p l0 l1 (bidi_Line.bk l0.length l0.length (Nat.le_refl _))=bidi_Line.go (l0.zip l1) p:=by
 have:=bidi_Line.fin p l0 l1 hl l0.length (Nat.le_refl _)
 rw [List.drop_length,List.zip_nil_left,show l1.take l0.length=l1 by rw [hl,List.take_length]] at this
 rw [← this]
 simp [bidi_Line.go,bidi_Line.all]
attribute [local go_sem] Oper.semAt_some
set_option maxHeartbeats 2000000 in
set_option maxRecDepth 100000 in
theorem bidi_Line.it (n:Nat) (hn:1≤n) (l_ bp:Nat) (w0:World) (A:Option Addr) (c:Nat) (l:List S36) (hl:l.length < 1000000) (J Jx:List (Fin l.length)→World→Prop)
  (HR:Aside0 (Kd.C k36 w0 A l.length l)) (HC:Aside0 (l.length≤c))
  (hY: ∀ pre x W,J pre W→pre.length < (bidi_Line.bk l.length l.length (Nat.le_refl _)).length→YieldAt Fence.wide (n - 1) Try.prog l_ (bidi_Line.enc l x) W fun e W'=>(e= .returned (.bool true)∧J (pre++[x]) W'∧bidi_Line.KP w0.heap.size bp W W')∨(e= .returned (.bool false)∧Jx (pre++[x]) W'))
  (W:World) (hJ:AbidesFrom W.heap.size J) (hb:Aside0 (Below w0.heap.size w0 W)) (hbp:Aside0 (W.heap[bp]?=some (.cells #[.slice A l.length c] 22 (0,0)))) (h0:J [] W) :
  CallsIn Fence.wide n Try.prog 74 #[.func (.yield l_) #[] #[],.pointer (some ⟨bp,0,none⟩)] W fun e W'=>(∃ v,e= .returned v)∧((∃ xs,xs=bidi_Line.bk l.length l.length (Nat.le_refl _)∧J xs W')∨(∃ pre,True∧Jx pre W')):=by
 refine callsIn_of_wp Try.func74 rfl trivial ?_ rfl
 simp only [Try.ntmps74,List.size_toArray,List.length_cons,List.length_nil,Nat.reduceAdd,Nat.reduceSub,Array.replicate_succ,Array.replicate_zero,List.push_toArray,List.append_toArray,List.nil_append,List.cons_append]
 have x0:=(blk_cell hbp.out 0).trans rfl
 have HY:=Aside0.mk hY
 have HJ:=Aside0.mk hJ
 have H0:=Aside0.mk h0
 obtain ⟨i1,hi1⟩: ∃ i1:Int,i1=(l.length:Int) - 1:=⟨_,rfl⟩
 have hw1:wrap64 ((l.length:Int) - 1)=i1:=by rw [hi1];unfold wrap64;omega
 have hw2:IntKind.i64.wrap ((l.length:Int) - 1)=i1:=by rw [hi1,IntKind.wrap_i64];omega
 have HI1:=Aside0.mk hi1
 clear hY hJ h0 hi1
 gi_wp2
 clear x0
 gi_loopg [3] (l.length) (fun kx s3 wr=> ∃ (pre:List (Fin l.length)) (i:Nat) (ii:Int) (hil:i≤l.length),s3= .int .i64 ii∧Aside0 (ii=(i:Int) - 1)∧kx=i∧Aside0 (bidi_Line.bk l.length l.length (Nat.le_refl _)=pre++bidi_Line.bk l.length i hil)∧Aside0 (J pre wr)∧Aside0 (Below w0.heap.size w0 wr)∧Aside0 (wr.heap[bp]?=some (.cells #[.slice A l.length c] 22 (0,0)))∧Aside0 (W.heap.size≤wr.heap.size))
 case atStart=>exact ⟨[],l.length,i1,Nat.le_refl _,rfl,HI1,rfl,⟨rfl⟩,H0,hb,hbp,⟨Nat.le_refl _⟩⟩
 case round =>
  clear H0 hb hbp hw1 hw2
  obtain ⟨pre,i,ii,hil,rfl,hii,hkx,HYS,H0,hb,hbp,hsz⟩:=hrel
  have HKX:=Aside0.mk hkx
  clear hkx
  cases i with
  | succ i =>
   have hii':ii=(i:Int):=by rw [hii.out];omega
   have hi':ii < (l.length:Int):=by rw [hii'];omega
   have hi0:(0:Int)≤ii:=by rw [hii'];omega
   obtain ⟨ad,hA,hc0,hc1,hc2⟩:=at_T36 (Kd.C_below HR.out hb.out) ii hi0 hi'
   have HS:=HYS.out
   rw [bidi_Line.bk] at HS
   have hlen:pre.length < (bidi_Line.bk l.length l.length (Nat.le_refl _)).length:=by rw [HS];simp
   have HS':=Aside0.mk HS
   obtain ⟨i2,hi2⟩: ∃ i2:Int,i2=ii - 1:=⟨_,rfl⟩
   have hw1:wrap64 (ii - 1)=i2:=by rw [hi2];unfold wrap64;omega
   have hw2:IntKind.i64.wrap (ii - 1)=i2:=by rw [hi2,IntKind.wrap_i64];omega
   have HI2:=Aside0.mk (show i2=(i:Int) - 1 by rw [hi2,hii'])
   have x1:=(blk_cell hbp.out 0).trans rfl
   subst hA
   obtain ⟨fn,tmps,assign,body,hy,hR⟩:=HY.out pre ⟨i,hil⟩ wr H0.out hlen
   dsimp only [bidi_Line.enc] at hy
   rw [← hii'] at hy
   have HL:=Aside0.mk hil
   clear HS HYS hlen hii hii' hi2
   gi_wp2
   refine hR.mono ?_
   rintro e W6 (⟨rfl,hJ6,hk6⟩|⟨rfl,hJx6⟩)
   ·
    have h6:=Aside0.mk hJ6
    have k6:=Aside0.mk hk6
    clear hJ6 hk6 hy hR x1
    gi_wp2
    gi_roundg (i)
    case measure=>have:=HKX.out;omega
    case rel=>exact ⟨pre++[⟨i,HL.out⟩],i,i2,Nat.le_of_succ_le HL.out,rfl,HI2,rfl,⟨by rw [HS'.out];simp⟩,h6,⟨hb.out.trans k6.out.1⟩,⟨k6.out.2 _ hbp.out⟩,⟨Nat.le_trans hsz.out k6.out.1.size⟩⟩
   ·
    have h6:=Aside0.mk hJx6
    clear hJx6 hy hR x1
    gi_wp2
    refine bodyPost_ret (results_none rfl _ _ _) rfl ?_
    exact ⟨⟨_,rfl⟩,.inr ⟨_,trivial,h6.out⟩⟩
  | zero =>
   have hi': ¬ ii≥0:=by rw [hii.out];omega
   have hi2: ¬ 0≤ii:=hi'
   have e:=HYS.out
   rw [bidi_Line.bk,List.append_nil] at e
   have H1:Aside0 (J (bidi_Line.bk l.length l.length (Nat.le_refl _)) wr):=⟨e▸H0.out⟩
   clear HYS e H0
   gi_wp2
   go_end0
   exact ⟨⟨_,rfl⟩,.inl H1.out⟩
theorem bidi_Line.bw_calls (S:Value) (hS:S.oneCell'=true) (W:World):Calls Try.prog 48 #[S] W fun e w'=>e= .returned (.func (.func 74) #[] #[.pointer (some ⟨W.heap.size,0,none⟩)])∧w'=W.alloc (.cells #[S] 22):=by
 go_enter Try.func48,Try.ntmps48
 go_wp2
 go_ret
 exact ⟨rfl,rfl⟩
theorem bidi_Line.stops (bp:Nat) (w:World) (A:Option Addr) (c:Nat) (l:List S36) (hl:l.length < 1000000)
  (HR:Aside0 (Kd.C k36 w A l.length l)) (HC:Aside0 (l.length≤c)) (W0:World) (hb:Below w.heap.size w W0) (hbp:W0.heap[bp]?=some (.cells #[.slice A l.length c] 22 (0,0))) :
  SeqStopsK Fence.wide 5 Try.prog 74 #[.pointer (some ⟨bp,0,none⟩)] (bidi_Line.enc l) (bidi_Line.KP w.heap.size bp) (fun xs=>xs=bidi_Line.bk l.length l.length (Nat.le_refl _)) (fun _=>True) (bidi_Line.bk l.length l.length (Nat.le_refl _)).length W0 :=
 fun l_ J Jx W hW hJ hJx hY h0=>bidi_Line.it 5 (by omega) l_ bp w A c l hl J Jx HR HC hY W hJ ⟨below_weaken hb hb.size hW⟩ ⟨blk_below hbp hW⟩ h0
def bidi_Line.Inv (bo b7:Nat) (p:Int) (v:Value) (A0:Option Addr) (n0 c0:Nat) (s:List Int × Bool) (W:World):Prop :=
 W.heap[bo]?=some (.cells #[.int .i64 p] 3 (0,0))∧W.heap[b7]?=some (.cells #[v] 23 (0,0))∧W.heap[b7+1]?=some (.cells #[.bool s.2] 4 (0,0))∧W.heap[b7+1+1]?=some (.cells #[.slice A0 n0 c0] 22 (0,0))∧Kd.R (Kd.int .i64) 3 W (bo+1) (fun k=>bo < k∧k < b7) v s.1
theorem bidi_Line.row {X:World} {B:Nat} {row:Option Nat} (hr: ∀ r,row=some r→B≤r∧ ∃ o:Obj,X.heap[r]?=some o∧o.isCells=false) (k:Nat) (hk: ∃ q cells,X.heap[k]?=some (.cells cells q (0,0))):some k≠row:=fun e=>by
 obtain ⟨q,cells,hc⟩:=hk
 obtain ⟨_,o,ho,hcc⟩:=hr k e.symm
 rw [hc] at ho
 cases ho
 cases hcc
theorem bidi_Line.own {β:Type} (B bo b7:Nat) (p:Int) (v:Value) (A0:Option Addr) (n0 c0:Nat) (st:β→List Int × Bool):OwnFrom B (fun (pre:β) W=>bidi_Line.Inv bo b7 p v A0 n0 c0 (st pre) W):=by
 rintro pre X Y row ⟨h1,h2,h3,h4,h5⟩ hg hr
 refine ⟨blk_grown h1 hg (bidi_Line.row hr _ ⟨_,_,h1⟩),blk_grown h2 hg (bidi_Line.row hr _ ⟨_,_,h2⟩),blk_grown h3 hg (bidi_Line.row hr _ ⟨_,_,h3⟩),blk_grown h4 hg (bidi_Line.row hr _ ⟨_,_,h4⟩),Kd.R_mono (Kd.R_grown (Kd.R_bound h5) hg (fun k hk=>?_)) (fun k hk=>hk.1)⟩
 obtain ⟨q,_,cells,hc⟩:=hk.2.2.2
 exact bidi_Line.row hr k ⟨q,cells,hc⟩
def bidi_Line.post (B bo b7:Nat) (p:Int) (v:Value) (A0:Option Addr) (n0 c0:Nat) (s:List Int × Bool) (W:World):Exit→Act→World→Prop
 | .normal,_,W'=>KeepsFrom B W W'∧Below bo W W'∧(∀ o,W.heap[b7+1+1]?=some o→W'.heap[b7+1+1]?=some o)∧bidi_Line.Inv bo b7 p v A0 n0 c0 s W'
 | _,_,_=>False
theorem bidi_Line.below_inv {bo b7:Nat} {p:Int} {v:Value} {A0:Option Addr} {n0 c0:Nat} {s:List Int × Bool} {W W':World} (h:bidi_Line.Inv bo b7 p v A0 n0 c0 s W) (hb:Below W.heap.size W W'):bidi_Line.Inv bo b7 p v A0 n0 c0 s W' :=
 ⟨blk_below h.1 hb,blk_below h.2.1 hb,blk_below h.2.2.1 hb,blk_below h.2.2.2.1 hb,Kd.R_below h.2.2.2.2 hb⟩
theorem bidi_Line.flag {bo b7:Nat} {p:Int} {v:Value} {A0:Option Addr} {n0 c0:Nat} {out:List Int} {e:Bool} {W:World} (h:bidi_Line.Inv bo b7 p v A0 n0 c0 (out,e) W) (hbo:bo < b7) (e':Bool):bidi_Line.Inv bo b7 p v A0 n0 c0 (out,e') (W.setCell ⟨b7+1,0,none⟩ (.bool e')):=by
 obtain ⟨h1,h2,h3,h4,h5⟩:=h
 refine ⟨blk_far h1 (by show bo≠b7+1;omega) _,blk_far h2 (by show b7≠b7+1;omega) _,?_,blk_far h4 (by show b7+1+1≠b7+1;omega) _,Kd.R_far h5 (fun k hk=>by show k≠b7+1;omega) _⟩
 have:=blk_set h3 0 (.bool e')
 exact this
theorem bidi_Line.level {bo b7 g cap n:Nat} {p:Int} {A0:Option Addr} {n0 c0:Nat} {out:List Int} {e:Bool} {W:World} (h:bidi_Line.Inv bo b7 p (.slice (some ⟨g,0,none⟩) n cap) A0 n0 c0 (out,e) W) (hg:bo < g∧g < b7) (ii:Int):bidi_Line.Inv bo b7 p (.slice (some ⟨g,0,none⟩) n cap) A0 n0 c0 (out.set ii.toNat p,e) (W.setCell ⟨g,ii.toNat,none⟩ (.int .i64 p)):=by
 obtain ⟨h1,h2,h3,h4,h5⟩:=h
 exact ⟨blk_far h1 (by show bo≠g;omega) _,blk_far h2 (by show b7≠g;omega) _,blk_far h3 (by show b7+1≠g;omega) _,blk_far h4 (by show b7+1+1≠g;omega) _,Kd.R_putn h5 ii p⟩
theorem bidi_Line.post_in {B bo b7:Nat} {p:Int} {v:Value} {A0:Option Addr} {n0 c0:Nat} {s:List Int × Bool} {W W':World} {a:Act} {id:Nat} (h:KeepsFrom B W W'∧Below bo W W'∧(∀ o,W.heap[b7+1+1]?=some o→W'.heap[b7+1+1]?=some o)∧bidi_Line.Inv bo b7 p v A0 n0 c0 s W') :
  Exit.inBlock id (bidi_Line.post B bo b7 p v A0 n0 c0 s W) Exit.normal a W':=h
theorem bidi_Line.ends0 {bo b7:Nat} {p:Int} {v:Value} {A0:Option Addr} {n0 c0:Nat} {out:List Int} {e:Bool} {W W3:World} (B:Nat) (hk:KeepsOthers W W3) (hb:Below bo W W3) (hp: ∀ o,W.heap[b7+1+1]?=some o→W3.heap[b7+1+1]?=some o) (hI:bidi_Line.Inv bo b7 p v A0 n0 c0 (out,e) W3) (hlt:bo < b7) (e':Bool) :
  KeepsFrom B W (W3.setCell ⟨b7+1,0,none⟩ (.bool e'))∧Below bo W (W3.setCell ⟨b7+1,0,none⟩ (.bool e'))∧(∀ o,W.heap[b7+1+1]?=some o→(W3.setCell ⟨b7+1,0,none⟩ (.bool e')).heap[b7+1+1]?=some o)∧bidi_Line.Inv bo b7 p v A0 n0 c0 (out,e') (W3.setCell ⟨b7+1,0,none⟩ (.bool e')) :=
 ⟨(hk.trans (KeepsOthers.setCell _ _ _)).from B,hb.setCell (p:=⟨b7+1,0,none⟩) (by show bo≤b7+1;omega) _,fun o ho=>(Below.heap_setCell W3 ⟨b7+1,0,none⟩ (.bool e') (b7+1+1) (by show b7+1+1≠b7+1;omega)).trans (hp o ho),bidi_Line.flag hI hlt e'⟩
theorem bidi_Line.ends1 {bo b7 g cap n:Nat} {p:Int} {A0:Option Addr} {n0 c0:Nat} {out:List Int} {e:Bool} {W W4:World} {B:Nat} (h:KeepsFrom B W W4∧Below bo W W4∧(∀ o,W.heap[b7+1+1]?=some o→W4.heap[b7+1+1]?=some o)∧bidi_Line.Inv bo b7 p (.slice (some ⟨g,0,none⟩) n cap) A0 n0 c0 (out,e) W4) (hg:bo < g∧g < b7) (ii:Int) :
  KeepsFrom B W (W4.setCell ⟨g,ii.toNat,none⟩ (.int .i64 p))∧Below bo W (W4.setCell ⟨g,ii.toNat,none⟩ (.int .i64 p))∧(∀ o,W.heap[b7+1+1]?=some o→(W4.setCell ⟨g,ii.toNat,none⟩ (.int .i64 p)).heap[b7+1+1]?=some o)∧bidi_Line.Inv bo b7 p (.slice (some ⟨g,0,none⟩) n cap) A0 n0 c0 (out.set ii.toNat p,e) (W4.setCell ⟨g,ii.toNat,none⟩ (.int .i64 p)) :=
 ⟨h.1.trans ((KeepsOthers.setCell _ _ _).from B),h.2.1.setCell (p:=⟨g,ii.toNat,none⟩) (by show bo≤g;omega) _,fun o ho=>(Below.heap_setCell W4 ⟨g,ii.toNat,none⟩ (.int .i64 p) (b7+1+1) (by show b7+1+1≠g;omega)).trans (h.2.2.1 o ho),bidi_Line.level h.2.2.2 hg ii⟩
theorem bidi_Line.blank_some (c:Int): ∃ b,bidi_blank.f c=some b:=by
 unfold bidi_blank.f level_Removed.f
 (repeat' split) <;> first|exact ⟨_,rfl⟩|(simp only [Option.bind_some];exact ⟨_,rfl⟩)
set_option maxHeartbeats 2000000 in
set_option maxRecDepth 100000 in
theorem bidi_Line.calls (A0:Option Addr) (c0:Nat) (l0:List S36) (A1:Option Addr) (c1:Nat) (l1:List Int) (a2:Int) (r:List Int) (w:World) (hr0:Kd.C k36 w A0 l0.length l0) (hc0:l0.length≤c0) (hr1:Kd.C (Kd.int .i64) w A1 l1.length l1) (hc1:l1.length≤c1) (h:bidi_Line.f l0 l1 a2=some r) :
  Calls Try.prog 31 #[.slice A0 l0.length c0,.slice A1 l1.length c1,.int .i64 a2] w fun e w'=> ∃ v0_:Value,e= .returned v0_∧Kd.R (Kd.int .i64) 3 w' w.heap.size (fun _=>True) v0_ r∧Below w.heap.size w w':=by
 unfold bidi_Line.f at h
 by_cases hl:l0.length=l1.length∧l0.length < 1000000
 ·
  rw [if_pos hl] at h
  obtain rfl:=Option.some.inj h
  clear h
  have HR0:=Aside0.mk hr0
  have HC0:=Aside0.mk hc0
  have HR1:=Aside0.mk hr1
  have HC1:=Aside0.mk hc1
  have HLL:=Aside0.mk hl.1
  have HLT:=Aside0.mk hl.2
  have HCL:=Aside0.mk (show slices_Clone_int_int.f l1=some l1 from if_pos (by omega))
  have cq:((l0.length:Int) !=(l1.length:Int))=false:=bne_eq_false_iff_eq.mpr (by omega)
  clear hr0 hc0 hr1 hc1 hl
  refine (callsIn_wide (n:=6)).1 ?_
  refine callsIn_of_wp_marks Try.func31 rfl trivial ?_ rfl
  simp only [Try.ntmps31,List.size_toArray,List.length_cons,List.length_nil,Nat.reduceAdd,Nat.reduceSub,Array.replicate_succ,Array.replicate_zero,List.push_toArray,List.append_toArray,List.nil_append,List.cons_append]
  gi_wp2_with (first|(refine ⟨trivial,?_⟩;gi_at_call 47;refine (callsIn_wide.2 (slices_Clone_int_int.calls _ _ l1 l1 _ (Kd.C_alloc HR1.out _) HC1.out HCL.out)).mono ?_;rintro e w2 ⟨v,rfl,hv,hb2⟩;obtain ⟨Av,cv,rfl⟩:=Kd.R_slice hv;have n1_:=Aside0.mk hv;have n2_:=Aside0.mk hb2;clear hv hb2)|(refine ⟨trivial,?_⟩;gi_at_call 48;refine (callsIn_wide.2 (bidi_Line.bw_calls (.slice A0 l0.length c0) rfl _)).mono ?_;rintro e w3 ⟨rfl,rfl⟩))
  have hv:=n1_.out
  have hb2:=n2_.out
  rw [World.size_alloc] at hv
  have e5:=blk_below (blk_new w (.cells #[.int .i64 a2] 3 (0,0))) hb2
  have hBw:Below w.heap.size w w2:=below_step (below_alloc (Below.refl w.heap.size w) _) hb2
  have hlt2:w.heap.size < w2.heap.size:=blk_lt e5
  obtain ⟨W0,hW0⟩: ∃ W0,((w2.alloc (.cells #[.slice Av l1.length cv] 23)).alloc (.cells #[.bool true] 4)).alloc (.cells #[.slice A0 l0.length c0] 22)=W0:=⟨_,rfl⟩
  have hInv:bidi_Line.Inv w.heap.size w2.heap.size a2 (.slice Av l1.length cv) A0 l0.length c0 (l1,true) W0:=by
   rw [← hW0]
   refine ⟨blk_alloc (blk_alloc (blk_alloc e5 _) _) _,blk_alloc (blk_alloc (blk_new w2 _) _) _,?_,?_,Kd.R_alloc (Kd.R_alloc (Kd.R_alloc (Kd.R_mono (Kd.R_bound hv) (fun k hk=>⟨by have:=hk.2.1;omega,hk.2.2.1⟩)) _) _) _⟩
   ·
    have:=blk_alloc (blk_new (w2.alloc (.cells #[.slice Av l1.length cv] 23)) (.cells #[.bool true] 4 (0,0))) (.cells #[.slice A0 l0.length c0] 22)
    rwa [World.size_alloc] at this
   ·
    have:=blk_new ((w2.alloc (.cells #[.slice Av l1.length cv] 23)).alloc (.cells #[.bool true] 4)) (.cells #[.slice A0 l0.length c0] 22 (0,0))
    rwa [World.size_alloc,World.size_alloc] at this
  have hBW:Below w.heap.size w W0:=by rw [← hW0];exact below_alloc (below_alloc (below_alloc hBw _) _) _
  have hsz:W0.heap.size=w2.heap.size+1+1+1:=by rw [← hW0,World.size_alloc,World.size_alloc,World.size_alloc]
  rw [hW0]
  clear hW0 e5 hv hb2 n1_ n2_ hBw
  obtain ⟨bo,hbo⟩: ∃ bo,w.heap.size=bo:=⟨_,rfl⟩
  obtain ⟨b7,hb7⟩: ∃ b7,w2.heap.size=b7:=⟨_,rfl⟩
  rw [hbo,hb7] at hInv
  rw [hb7] at hsz
  rw [hbo,hb7] at hlt2
  rw [hbo,hb7]
  refine wpIn_rangeFunc_ownH (F:=Fence.wide) rfl (by omega) (gf:=74) (lb:= #[.pointer (some ⟨b7+1+1,0,none⟩)]) rfl trivial (enters_of Try.func74 (by kernel_rfl) rfl)
   (bidi_Line.stops (b7+1+1) w A0 c0 l0 HLT.out HR0 HC0 W0 hBW hInv.2.2.2.1) bidi_Line.KP_t (bidi_Line.KP_b (by omega) (by omega)) (Below.refl _ _) (fun _=>rfl)
   (fun pre W=>bidi_Line.Inv bo b7 a2 (.slice Av l1.length cv) A0 l0.length c0 (bidi_Line.all a2 l0 l1 pre) W∧Below bo w W)
   (fun _ _ _=>False)
   (OwnFrom.and (bidi_Line.own _ bo b7 a2 _ A0 l0.length c0 (fun pre=>bidi_Line.all a2 l0 l1 pre)) (ownFrom_below (by omega) (by omega)))
   (fun _ _ _ _ _ hs _ _=>hs)
   ⟨hInv,by rw [hbo] at hBW;exact hBW⟩
   (fun x a' W=> ∃ bx,b7+1+1 < bx∧a'={tmps:= #[Value.slice A0 l0.length c0,Value.slice A1 l1.length c1,Value.int IntKind.i64 a2,undef,undef,Value.pointer (some {block:=bo,off:=0}),Value.slice none 0 0,Value.pointer (some {block:=b7,off:=0}),Value.pointer (some {block:=b7+1,off:=0}),Value.int IntKind.i64 (x.val:Int),Value.pointer (some {block:=bx,off:=0}),undef,Value.slice A0 l0.length c0,Value.int IntKind.i64 (l0.length:Int),Value.slice A1 l1.length c1,Value.int IntKind.i64 (l1.length:Int),Value.bool false,Value.slice A1 l1.length c1,Value.slice Av l1.length cv,Value.slice A0 l0.length c0,Value.func (Fn.func 74) #[] #[Value.pointer (some {block:=b7+1+1,off:=0})],Value.int IntKind.i64 (x.val:Int),Value.agg #[Value.int IntKind.i64 (rd_T36 l0 (x.val:Int)).f0,Value.int IntKind.i64 (rd_T36 l0 (x.val:Int)).f1,Value.int IntKind.i64 (rd_T36 l0 (x.val:Int)).f2],undef,undef,undef,undef,undef,undef,undef,undef,undef,undef,undef,undef,undef,undef,undef,undef,undef,undef,undef,undef,undef,undef],defers:=[]}∧W.heap[bx]?=some (.cells #[Value.int IntKind.i64 (rd_T36 l0 (x.val:Int)).f0,Value.int IntKind.i64 (rd_T36 l0 (x.val:Int)).f1,Value.int IntKind.i64 (rd_T36 l0 (x.val:Int)).f2] 36 (0,0)))
   (fun x a' s X Y row hs hg hr=>by
    obtain ⟨bx,h0,h1,h2⟩:=hs
    exact ⟨bx,h0,h1,blk_grown h2 hg (bidi_Line.row hr _ ⟨_,_,h2⟩)⟩)
   ?assign ?body ?done ?stop
  case assign =>
   rintro l_ pre x W K ⟨⟨i5,i7,i8,i9,iR⟩,hB⟩ hK
   dsimp only [bidi_Line.enc] at hK ⊢
   gi_wp2
   exact hK _ _ ((KeepsOthers.alloc W _).from _) ⟨(Below.refl _ _).alloc (by have:=blk_lt i9;omega) _,fun o ho=>blk_alloc ho _⟩ ⟨⟨blk_alloc i5 _,blk_alloc i7 _,blk_alloc i8 _,blk_alloc i9 _,Kd.R_alloc iR _⟩,hB.trans ((Below.refl _ _).alloc (by have:=blk_lt i9;omega) _)⟩ ⟨W.heap.size,blk_lt i9,rfl,blk_new W _⟩
  case body =>
   rintro l_ pre x a' W hlw ⟨r,hr⟩ ⟨hI,hB⟩ ⟨bx,hbx,rfl,hx⟩ hlt
   have hol:=bidi_Line.all_len a2 l0 l1 pre
   refine wpIn_mono (Q:=bidi_Line.post W0.heap.size bo b7 a2 (.slice Av l1.length cv) A0 l0.length c0 (bidi_Line.add a2 l0 (bidi_Line.all a2 l0 l1 pre) x) W) ?_ (fun e a2 W2 h=>by
    cases e with
    | normal =>
     obtain ⟨h1,h2,h3,h4⟩:=h
     exact ⟨h1,⟨by rw [hbo];exact h2,h3⟩,⟨by rw [bidi_Line.all_snoc];exact h4,hB.trans h2⟩⟩
    | ret=>exact h.elim
    | exit=>exact h.elim
    | goto=>exact h.elim
    | panic=>exact h.elim
    | outgrown=>exact h.elim)
   generalize bidi_Line.all a2 l0 l1 pre=s at hI hol ⊢
   obtain ⟨out,e⟩:=s
   dsimp only at hol
   have hxl:=x.isLt
   obtain ⟨res,hres⟩: ∃ res,bidi_Line.add a2 l0 (out,e) x=res:=⟨_,rfl⟩
   rw [hres]
   unfold bidi_Line.add at hres
   obtain ⟨ii,hii⟩: ∃ ii:Int,(x.val:Int)=ii:=⟨_,rfl⟩
   obtain ⟨xn,hxn⟩: ∃ xn:Nat,x.val=xn:=⟨_,rfl⟩
   rw [hxn] at hii hxl
   rw [hxn,hii] at hx hres
   rw [hxn,hii]
   generalize rd_T36 l0 ii=y at hx hres ⊢
   obtain ⟨f0,f1,f2⟩:=y
   dsimp only at hx hres ⊢
   obtain ⟨ci,hci⟩: ∃ ci,class_Of.val f2=ci:=⟨_,rfl⟩
   rw [hci] at hres
   have HCL2:=Aside0.mk (show class_Of.f f2=some ci by unfold class_Of.f;rw [hci])
   obtain ⟨bl,hbl⟩:=bidi_Line.blank_some ci
   rw [hbl,Option.getD_some] at hres
   have HRES:=Aside0.mk hres
   have HBL:=Aside0.mk hbl
   have hi0:0≤ii:=by omega
   have hi1:ii < (l1.length:Int):=by have:=HLL.out;omega
   have HXN:=Aside0.mk (show ii.toNat=xn by omega)
   have HL1:=Aside0.mk (show out.length=l1.length from hol)
   have HB:=Aside0.mk hB
   have HI:=Aside0.mk hI
   have HLT2:=Aside0.mk hlt2
   have HSZ:=Aside0.mk (show bo≤W.heap.size by have:=blk_lt hI.1;omega)
   have y2:W.cell? ⟨bx,2,none⟩=some (.int .i64 f2):=(blk_cell hx 2).trans rfl
   clear hI hB hol hxl hii hxn hci hbl hlt hx hbx hr hlw hInv hBW hsz hlt2 hres
   gi_upto_region 9 with (refine ⟨trivial,?_⟩;gi_at_call 49;refine (calls_inR (class_Of.calls f2 ci _ HCL2.out)).mono ?_;rintro e3 W3 ⟨rfl,hb3⟩;have n3_:=Aside0.mk hb3;clear hb3)
   have HI3:=Aside0.mk (bidi_Line.below_inv HI.out n3_.out)
   have HK3:=Aside0.mk (show KeepsOthers W W3 from KeepsOthers.of_grownBy (grown_of_below n3_.out none) (fun j o hj _=>by cases hj))
   have HB3:=Aside0.mk (show Below bo W W3 from n3_.out.mono HSZ.out)
   have HP3:=Aside0.mk (show ∀ o,W.heap[b7+1+1]?=some o→W3.heap[b7+1+1]?=some o from fun o ho=>blk_below ho n3_.out)
   have y8:W3.cell? ⟨b7+1,0,none⟩=some (.bool e):=(blk_cell HI3.out.2.2.1 0).trans rfl
   have z8:W3.frozen? ⟨b7+1,0,none⟩=false:=blk_frozen HI3.out.2.2.1 0
   clear HI y2 n3_ HCL2
   have split5:(ci=11)∨(ci≠11∧ci=10)∨(ci≠11∧ci≠10∧e=false)∨(ci≠11∧ci≠10∧e=true∧bl=true)∨(ci≠11∧ci≠10∧e=true∧bl=false):=by
    by_cases k1:ci=11
    ·
     exact .inl k1
    by_cases k2:ci=10
    ·
     exact .inr (.inl ⟨k1,k2⟩)
    cases e
    ·
     exact .inr (.inr (.inl ⟨k1,k2,rfl⟩))
    cases bl
    ·
     exact .inr (.inr (.inr (.inr ⟨k1,k2,rfl,rfl⟩)))
    ·
     exact .inr (.inr (.inr (.inl ⟨k1,k2,rfl,rfl⟩)))
   rcases split5 with rfl|⟨k1,rfl⟩|⟨k1,k2,rfl⟩|⟨k1,k2,rfl,rfl⟩|⟨k1,k2,rfl,rfl⟩
   ·
    have hE:=HRES.out
    simp only [decide_true,Bool.true_or,if_true] at hE
    refine region_inR (by kernel_rfl) (fun _ _ h=>h) ?_
    go_wp2
    have E0:=bidi_Line.ends0 W0.heap.size HK3.out HB3.out HP3.out HI3.out HLT2.out true
    obtain ⟨W4,hW4⟩: ∃ W4,W3.setCell ⟨b7+1,0,none⟩ (.bool true)=W4:=⟨_,rfl⟩
    rw [hW4] at E0
    rw [hW4]
    have hR4:=E0.2.2.2.2.2.2.2
    dsimp only at hR4
    obtain ⟨g,cap,hvv,_,_,_⟩:=Kd.R_form hR4 (by have:=HL1.out;omega)
    injection hvv with q1 _ q3
    subst q1 q3
    have hg:=hR4.1 g (by simp [Value.ownBlock])
    have y7:W4.cell? ⟨b7,0,none⟩=some (.slice (some ⟨g,0,none⟩) l1.length cv):=(blk_cell E0.2.2.2.2.1 0).trans rfl
    have y9:W4.cell? ⟨b7+1,0,none⟩=some (.bool true):=(blk_cell E0.2.2.2.2.2.1 0).trans rfl
    have y5:W4.cell? ⟨bo,0,none⟩=some (.int .i64 a2):=(blk_cell E0.2.2.2.1 0).trans rfl
    obtain ⟨ya,za⟩:=Kd.R_celln (0:Int) hR4 ii hi0 hi1
    have E1:=Aside0.mk (bidi_Line.ends1 E0 hg ii)
    rw [← HXN.out] at hE
    have HE:=Aside0.mk hE
    clear E0 hW4 hR4 hg y8 z8 hE
    gi_wp2
    have E2:=E1.out
    rw [HE.out] at E2
    exact E2
   ·
    have hE:=HRES.out
    simp only [decide_true,Bool.or_true,Bool.true_or,if_true] at hE
    refine region_inR (by kernel_rfl) (fun _ _ h=>h) ?_
    go_wp2
    have E0:=bidi_Line.ends0 W0.heap.size HK3.out HB3.out HP3.out HI3.out HLT2.out true
    obtain ⟨W4,hW4⟩: ∃ W4,W3.setCell ⟨b7+1,0,none⟩ (.bool true)=W4:=⟨_,rfl⟩
    rw [hW4] at E0
    rw [hW4]
    have hR4:=E0.2.2.2.2.2.2.2
    dsimp only at hR4
    obtain ⟨g,cap,hvv,_,_,_⟩:=Kd.R_form hR4 (by have:=HL1.out;omega)
    injection hvv with q1 _ q3
    subst q1 q3
    have hg:=hR4.1 g (by simp [Value.ownBlock])
    have y7:W4.cell? ⟨b7,0,none⟩=some (.slice (some ⟨g,0,none⟩) l1.length cv):=(blk_cell E0.2.2.2.2.1 0).trans rfl
    have y9:W4.cell? ⟨b7+1,0,none⟩=some (.bool true):=(blk_cell E0.2.2.2.2.2.1 0).trans rfl
    have y5:W4.cell? ⟨bo,0,none⟩=some (.int .i64 a2):=(blk_cell E0.2.2.2.1 0).trans rfl
    obtain ⟨ya,za⟩:=Kd.R_celln (0:Int) hR4 ii hi0 hi1
    have E1:=Aside0.mk (bidi_Line.ends1 E0 hg ii)
    rw [← HXN.out] at hE
    have HE:=Aside0.mk hE
    clear E0 hW4 hR4 hg y8 z8 hE
    gi_wp2
    have E2:=E1.out
    rw [HE.out] at E2
    exact E2
   ·
    have hE:=HRES.out
    have b1:(ci==11)=false:=beq_eq_false_iff_ne.mpr k1
    have b2:(ci==10)=false:=beq_eq_false_iff_ne.mpr k2
    simp only [decide_eq_false k1,decide_eq_false k2,Bool.false_and,Bool.or_false,Bool.false_eq_true,if_false] at hE
    refine region_inR (by kernel_rfl) (fun _ _ h=>h) ?_
    go_wp2
    have E0:=Aside0.mk (bidi_Line.ends0 W0.heap.size HK3.out HB3.out HP3.out HI3.out HLT2.out false)
    obtain ⟨W4,hW4⟩: ∃ W4,W3.setCell ⟨b7+1,0,none⟩ (.bool false)=W4:=⟨_,rfl⟩
    rw [hW4] at E0
    rw [hW4]
    have y9:W4.cell? ⟨b7+1,0,none⟩=some (.bool false):=(blk_cell E0.out.2.2.2.2.2.1 0).trans rfl
    have HE:=Aside0.mk hE
    clear hW4 y8 z8 hE
    gi_wp2
    have E2:=E0.out
    rw [HE.out] at E2
    exact E2
   ·
    have hE:=HRES.out
    have b1:(ci==11)=false:=beq_eq_false_iff_ne.mpr k1
    have b2:(ci==10)=false:=beq_eq_false_iff_ne.mpr k2
    simp only [decide_eq_false k1,decide_eq_false k2,Bool.true_and,Bool.false_or,if_true] at hE
    refine region_inR (by kernel_rfl) (fun _ _ h=>h) ?_
    go_wp2_with (first|((with_reducible refine gate_callee (f:=50) rfl ?_);(try (refine gate_guard (by rfl) ?_;dsimp only));refine goesL_ (some 36) rfl rfl Try.func50 (by kernel_rfl) rfl #[.int .i64 ci] rfl (by (try simp only [List.map_toArray,List.map_cons,List.map_nil]);first|done|rfl) ?_;(with_reducible refine (bidi_blank.calls ci _ _ HBL.out).mono ?_);rintro e4 W4 ⟨rfl,⟨nd,rfl⟩⟩;refine ⟨_,rfl,?_⟩))
    have E0:=bidi_Line.ends0 (W3:=W3.drewN nd) W0.heap.size (HK3.out.trans ⟨Nat.le_refl _,fun _ _ h _=>h⟩) (pw_below_drewN HB3.out nd) HP3.out (bidi_Line.below_inv HI3.out (pw_below_drewN (Below.refl W3.heap.size W3) nd)) HLT2.out true
    obtain ⟨W4,hW4⟩: ∃ W4,(W3.drewN nd).setCell ⟨b7+1,0,none⟩ (.bool true)=W4:=⟨_,rfl⟩
    rw [hW4] at E0
    rw [hW4]
    have hR4:=E0.2.2.2.2.2.2.2
    dsimp only at hR4
    obtain ⟨g,cap,hvv,_,_,_⟩:=Kd.R_form hR4 (by have:=HL1.out;omega)
    injection hvv with q1 _ q3
    subst q1 q3
    have hg:=hR4.1 g (by simp [Value.ownBlock])
    have y7:W4.cell? ⟨b7,0,none⟩=some (.slice (some ⟨g,0,none⟩) l1.length cv):=(blk_cell E0.2.2.2.2.1 0).trans rfl
    have y9:W4.cell? ⟨b7+1,0,none⟩=some (.bool true):=(blk_cell E0.2.2.2.2.2.1 0).trans rfl
    have y5:W4.cell? ⟨bo,0,none⟩=some (.int .i64 a2):=(blk_cell E0.2.2.2.1 0).trans rfl
    obtain ⟨ya,za⟩:=Kd.R_celln (0:Int) hR4 ii hi0 hi1
    have E1:=Aside0.mk (bidi_Line.ends1 E0 hg ii)
    rw [← HXN.out] at hE
    have HE:=Aside0.mk hE
    clear E0 hW4 hR4 hg y8 z8 hE
    gi_wp2
    have E2:=E1.out
    rw [HE.out] at E2
    exact E2
   ·
    have hE:=HRES.out
    have b1:(ci==11)=false:=beq_eq_false_iff_ne.mpr k1
    have b2:(ci==10)=false:=beq_eq_false_iff_ne.mpr k2
    simp only [decide_eq_false k1,decide_eq_false k2,Bool.and_false,Bool.or_false,Bool.false_eq_true,if_false] at hE
    refine region_inR (by kernel_rfl) (fun _ _ h=>h) ?_
    go_wp2_with (first|((with_reducible refine gate_callee (f:=50) rfl ?_);(try (refine gate_guard (by rfl) ?_;dsimp only));refine goesL_ (some 36) rfl rfl Try.func50 (by kernel_rfl) rfl #[.int .i64 ci] rfl (by (try simp only [List.map_toArray,List.map_cons,List.map_nil]);first|done|rfl) ?_;(with_reducible refine (bidi_blank.calls ci _ _ HBL.out).mono ?_);rintro e4 W4 ⟨rfl,⟨nd,rfl⟩⟩;refine ⟨_,rfl,?_⟩))
    have E0:=Aside0.mk (bidi_Line.ends0 (W3:=W3.drewN nd) W0.heap.size (HK3.out.trans ⟨Nat.le_refl _,fun _ _ h _=>h⟩) (pw_below_drewN HB3.out nd) HP3.out (bidi_Line.below_inv HI3.out (pw_below_drewN (Below.refl W3.heap.size W3) nd)) HLT2.out false)
    obtain ⟨W4,hW4⟩: ∃ W4,(W3.drewN nd).setCell ⟨b7+1,0,none⟩ (.bool false)=W4:=⟨_,rfl⟩
    rw [hW4] at E0
    rw [hW4]
    have y9:W4.cell? ⟨b7+1,0,none⟩=some (.bool false):=(blk_cell E0.out.2.2.2.2.2.1 0).trans rfl
    have HE:=Aside0.mk hE
    clear hW4 y8 z8 hE
    gi_wp2
    have E2:=E0.out
    rw [HE.out] at E2
    exact E2
  case done =>
   rintro D xs W hD rfl ⟨⟨i5,i7,i8,i9,iR⟩,hB⟩ hK
   have hc:=(blk_cell i7 0).trans rfl
   have hR:=Kd.R_grown (Kd.R_bound iR) (grownBy_putObj' W D (.deferred none)) (fun k hk e=>by
    obtain ⟨q,_,cells,hc2⟩:=hk.2.2.2
    injection e with e
    rw [e,hK] at hc2
    cases hc2)
   rw [bidi_Line.all_go a2 l0 l1 HLL.out] at hR
   have RR:=Aside0.mk hR
   have BB:=Aside0.mk hB
   clear i5 i7 i8 i9 iR hB hR
   gi_wp2
   refine ⟨by simp,.inl ⟨_,_,rfl,run_takeDeferred hK,?_⟩⟩
   exact ⟨_,results_tmp rfl _ _ _,_,rfl,by rw [hbo];exact Kd.R_mono (Kd.R_lower RR.out (Nat.le_succ bo)) (fun _ _=>trivial),by rw [hbo];exact BB.out.trans (belowK_b (w:=w) (by omega) _ D _ _ (by omega) hK rfl rfl)⟩
  case stop =>
   rintro D c pre W _ _ h _
   exact h.elim
 ·
  rw [if_neg hl] at h
  cases h
end
end Go.Proofs.Yteoaegigjlhamaa.PC19
