/- Short words for what a printed walk says over and over: closers as defaults of an argument (they run where they are named), and facts carried over what was drawn or made. Conditions: none of its own. -/
import Derived.Test.YteoaegigjlhamaaWWords
import Derived.Test.YteoaegigjlhamaaWLast
import Derived.Test.YteoaegigjlhamaaWMore
namespace Go.Proofs.YteoaegigjlhamaaW.PrintWords
open Go.RowKit Go.Proofs.YteoaegigjlhamaaW.PrintLast Go.Proofs.YteoaegigjlhamaaW.PrintMore
set_option linter.unusedVariables false
theorem ifS {α:Type} {c:Prop} [Decidable c] {A:Option α} {r:α} (h:(if c then A else none)=some r):c∧A=some r:=by
  by_cases hc:c
  · rw [if_pos hc] at h;exact ⟨hc,h⟩
  · rw [if_neg hc] at h;cases h
theorem Am {p:Prop} (h:p):Aside0 p:=Aside0.mk h
theorem TL {p:Prop} (h:p:=by repeat' first|(with_reducible exact LeO.refl _)|(with_reducible exact LeO.none _)|(with_reducible refine LeO.ite ?_ ?_)|(with_reducible refine LeO.bind ?_ (fun _=>?_))|(with_reducible apply ih0)|(with_reducible apply ih1)|(with_reducible apply ih2)|(with_reducible apply ih3)|(with_reducible apply ih4)|(with_reducible apply ih5)|(with_reducible apply ih6)|(with_reducible apply ih7)|(with_reducible apply ih8)|(with_reducible apply ih9)|(with_reducible apply ih10)|(with_reducible apply ih11)|(with_reducible apply ih12)|(with_reducible apply ih13)|(with_reducible apply j0)|(with_reducible apply j1)|(with_reducible apply j2)|(with_reducible apply j3)|(with_reducible apply j4)|(with_reducible apply j5)|(with_reducible apply j6)|(with_reducible apply j7)|(with_reducible apply j8)|(with_reducible apply j9)):p:=h
theorem TB {p:Prop} (h:p:=by repeat (first|(with_reducible first|exact HB.out|apply below_alloc|apply pw_below_drewN|apply below_drew1|refine below_set ?_ (Aside0.out (by assumption)))|exact HB.out)):p:=h
theorem tD {p:Prop} [Decidable p] (h:decide p=true:=by first|(with_reducible assumption)|assumption):p:=of_decide_eq_true h
theorem TM {p:Prop} (h:p:=by (try simp only [List.map_toArray,List.map_cons,List.map_nil]);first|done|rfl|(simp only [List.length_drop,List.length_take];rfl)):p:=h
theorem TS {p:Prop} (h:p:=by first|rfl|(simp;done)|(simp [*];done)):p:=h
theorem TE {p:Prop} (h:p:=by first|rfl|(simp [errW_none,errW_some] <;> rfl)|(simp [*,errW_none,errW_some] <;> rfl)):p:=h
theorem TG {p:Prop} (h:p:=by first|(go_simp;done)|(go_simp;rfl)):p:=h
theorem TK {p:Prop} (h:p:=by kernel_rfl):p:=h
theorem blkU {w W:World} {g:Nat} {o:Obj} (h:w.heap[g]?=some o) (u:Below w.heap.size w W:=by repeat (with_reducible first|exact Below.refl _ _|apply below_alloc|apply pw_below_drewN|apply below_drew1)):W.heap[g]?=some o:=blk_below h u
section
variable {α : Type} {d : Kd α} {e base n : Nat} {ok : Nat → Prop} {w W : World} {v : Value} {A : Option Addr} {xs : List α}
theorem RU (h:d.R e w base ok v xs) (u:Below w.heap.size w W:=by repeat (with_reducible first|exact Below.refl _ _|apply below_alloc|apply pw_below_drewN|apply below_drew1)):d.R e W base ok v xs:=Kd.R_below h u
theorem CU (h:d.C w A n xs) (u:Below w.heap.size w W:=by repeat (with_reducible first|exact Below.refl _ _|apply below_alloc|apply pw_below_drewN|apply below_drew1)):d.C W A n xs:=Kd.C_below h u
end
theorem TN {w:World} {a b:Addr} {x:Value} {g:Nat} (h:w.cell? a=some x) (hg:w.heap.size≤g) (e:b.block=a.block:=by first|rfl|(simp only [add_block])):b.block≠g:=by
  rw [e]
  exact Nat.ne_of_lt (Nat.lt_of_lt_of_le (World.block_lt_of_cell? _ _ h) hg)
theorem blkC2 {w:World} {g:Nat} {t:TypeId} {a0 a1:Value} (h:w.heap[g]?=some (.cells #[a0,a1] t (0,0))):w.cell? ⟨g,0,none⟩=some a0∧w.cell? ⟨g,1,none⟩=some a1:=⟨(blk_cell h 0).trans rfl,(blk_cell h 1).trans rfl⟩
theorem blkF2 {w:World} {g:Nat} {t:TypeId} {cs:Array Value} (h:w.heap[g]?=some (.cells cs t (0,0))):w.frozen? ⟨g,0,none⟩=false∧w.frozen? ⟨g,1,none⟩=false:=⟨blk_frozen h 0,blk_frozen h 1⟩
theorem blkC5 {w:World} {g:Nat} {t:TypeId} {a0 a1 a2 a3 a4:Value} (h:w.heap[g]?=some (.cells #[a0,a1,a2,a3,a4] t (0,0))):w.cell? ⟨g,0,none⟩=some a0∧w.cell? ⟨g,1,none⟩=some a1∧w.cell? ⟨g,2,none⟩=some a2∧w.cell? ⟨g,3,none⟩=some a3∧w.cell? ⟨g,4,none⟩=some a4:=⟨(blk_cell h 0).trans rfl,(blk_cell h 1).trans rfl,(blk_cell h 2).trans rfl,(blk_cell h 3).trans rfl,(blk_cell h 4).trans rfl⟩
theorem blkF5 {w:World} {g:Nat} {t:TypeId} {cs:Array Value} (h:w.heap[g]?=some (.cells cs t (0,0))):w.frozen? ⟨g,0,none⟩=false∧w.frozen? ⟨g,1,none⟩=false∧w.frozen? ⟨g,2,none⟩=false∧w.frozen? ⟨g,3,none⟩=false∧w.frozen? ⟨g,4,none⟩=false:=⟨blk_frozen h 0,blk_frozen h 1,blk_frozen h 2,blk_frozen h 3,blk_frozen h 4⟩
theorem blkC6 {w:World} {g:Nat} {t:TypeId} {a0 a1 a2 a3 a4 a5:Value} (h:w.heap[g]?=some (.cells #[a0,a1,a2,a3,a4,a5] t (0,0))):w.cell? ⟨g,0,none⟩=some a0∧w.cell? ⟨g,1,none⟩=some a1∧w.cell? ⟨g,2,none⟩=some a2∧w.cell? ⟨g,3,none⟩=some a3∧w.cell? ⟨g,4,none⟩=some a4∧w.cell? ⟨g,5,none⟩=some a5:=⟨(blk_cell h 0).trans rfl,(blk_cell h 1).trans rfl,(blk_cell h 2).trans rfl,(blk_cell h 3).trans rfl,(blk_cell h 4).trans rfl,(blk_cell h 5).trans rfl⟩
theorem blkF6 {w:World} {g:Nat} {t:TypeId} {cs:Array Value} (h:w.heap[g]?=some (.cells cs t (0,0))):w.frozen? ⟨g,0,none⟩=false∧w.frozen? ⟨g,1,none⟩=false∧w.frozen? ⟨g,2,none⟩=false∧w.frozen? ⟨g,3,none⟩=false∧w.frozen? ⟨g,4,none⟩=false∧w.frozen? ⟨g,5,none⟩=false:=⟨blk_frozen h 0,blk_frozen h 1,blk_frozen h 2,blk_frozen h 3,blk_frozen h 4,blk_frozen h 5⟩
theorem blkC8 {w:World} {g:Nat} {t:TypeId} {a0 a1 a2 a3 a4 a5 a6 a7:Value} (h:w.heap[g]?=some (.cells #[a0,a1,a2,a3,a4,a5,a6,a7] t (0,0))):w.cell? ⟨g,0,none⟩=some a0∧w.cell? ⟨g,1,none⟩=some a1∧w.cell? ⟨g,2,none⟩=some a2∧w.cell? ⟨g,3,none⟩=some a3∧w.cell? ⟨g,4,none⟩=some a4∧w.cell? ⟨g,5,none⟩=some a5∧w.cell? ⟨g,6,none⟩=some a6∧w.cell? ⟨g,7,none⟩=some a7:=⟨(blk_cell h 0).trans rfl,(blk_cell h 1).trans rfl,(blk_cell h 2).trans rfl,(blk_cell h 3).trans rfl,(blk_cell h 4).trans rfl,(blk_cell h 5).trans rfl,(blk_cell h 6).trans rfl,(blk_cell h 7).trans rfl⟩
theorem blkF8 {w:World} {g:Nat} {t:TypeId} {cs:Array Value} (h:w.heap[g]?=some (.cells cs t (0,0))):w.frozen? ⟨g,0,none⟩=false∧w.frozen? ⟨g,1,none⟩=false∧w.frozen? ⟨g,2,none⟩=false∧w.frozen? ⟨g,3,none⟩=false∧w.frozen? ⟨g,4,none⟩=false∧w.frozen? ⟨g,5,none⟩=false∧w.frozen? ⟨g,6,none⟩=false∧w.frozen? ⟨g,7,none⟩=false:=⟨blk_frozen h 0,blk_frozen h 1,blk_frozen h 2,blk_frozen h 3,blk_frozen h 4,blk_frozen h 5,blk_frozen h 6,blk_frozen h 7⟩
theorem gwS {w W:World} {g:Nat} (hg:g=W.heap.size) (h:Below w.heap.size w W:=by repeat (first|(with_reducible first|exact HB.out|apply below_alloc|apply pw_below_drewN|apply below_drew1|refine below_set ?_ (Aside0.out (by assumption)))|exact HB.out)):w.heap.size≤g:=hg▸below_size h
theorem ltS {W:World} {g g':Nat} {o:Obj} (hg:g'=W.heap.size) (h:W.heap[g]?=some o):g≠g':=hg▸Nat.ne_of_lt (blk_lt h)
theorem gtS {W:World} {g g':Nat} {o:Obj} (hg:g'=W.heap.size) (h:W.heap[g]?=some o):g'≠g:=hg▸Nat.ne_of_gt (blk_lt h)
theorem cellU {w W:World} {a:Addr} {v:Value} (hb:Below w.heap.size w W) (h:w.cell? a=some v):W.cell? a=some v:=(hb.cell (World.block_lt_of_cell? w _ h)).trans h
theorem PT2:(∀ (t:Array Value) (df:List Deferred) (d:Tmp) (v:Value),Act.put ⟨t,df⟩ (some d) v=⟨t.setIfInBounds d v,df⟩)∧(∀ (l:List Value) (i:Nat) (x:Value),l.toArray.setIfInBounds i x=(l.set i x).toArray)∧(∀ (x y:Value) (l:List Value),(x::l).set 0 y=y::l)∧ ∀ (x y:Value) (l:List Value) (n:Nat),(x::l).set (n+1) y=x::l.set n y :=
  ⟨fun _ _ _ _=>rfl,fun _ _ _=>List.setIfInBounds_toArray ..,fun _ _ _=>rfl,fun _ _ _ _=>rfl⟩
theorem PT:(∀ (t:Array Value) (df:List Deferred) (d:Tmp) (v:Value),Act.put ⟨t,df⟩ (some d) v=⟨t.setIfInBounds d v,df⟩)∧(∀ (l:List Value) (i:Nat) (x:Value),l.toArray.setIfInBounds i x=(l.set i x).toArray)∧(∀ (x y:Value) (l:List Value),(x::l).set 0 y=y::l)∧(∀ (x y:Value) (l:List Value) (n:Nat),(x::l).set (n+1) y=x::l.set n y)∧(∀ n:Int,IntKind.i64.wrap n=Go.RowKit.wrap64 n)∧ ∀ n:Int,IntKind.i32.wrap n=Go.RowKit.wrap32 n :=
  ⟨fun _ _ _ _=>rfl,fun _ _ _=>List.setIfInBounds_toArray ..,fun _ _ _=>rfl,fun _ _ _ _=>rfl,i64_w,i32_w⟩
def bl (n m:Nat):Array Bool:=((List.range n).map fun i=>m.testBit i).toArray
section
variable {P : Program} {ops : Array Oper} {Q : Exit → Act → World → Prop} {md : Region.Mode} {S : World → Prop} {ds : List Nat}
theorem pureS {i:Nat} {N:Option Tmp} {oi:Oper} {v:Value} {fuel:Nat} {l:Array Bool} {a:Act} {w:World} (l':Array Bool) (hi:ops[i]?=some oi) (hN:oi.dst=N) (hc:anyB md ops l l' i=true) {a':Act} (h:wpAnyLast P md ops Q S ds fuel l' a' w)
    (hQ: ∀ c a w,Q (.panic c) (a.put oi.dst v) w→Q (.panic c) a w:=by exact fun _ _ _ h=>h) (hw:Region.wanted oi (yielded ops a.tmps)=true:=by rfl) (hy: ∀ w,(execOp a.eval oi).run P w= .ok (.value v) w:=by intro w';go_simp;with_reducible rfl) (ha:a.put N v=a':=by simp only [PT];rfl):wpAnyLast P md ops Q S ds (fuel+1) l a w :=
  pure_ l' hi hN hc hQ (Or.inl ⟨hw,hy⟩) ha h
end
end Go.Proofs.YteoaegigjlhamaaW.PrintWords
