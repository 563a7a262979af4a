/- Words for plain laws over the printed Lean functions: one step of a function with rounds, from some number of rounds on; and small laws on numbers. Conditions: none. -/
import Derived.Test.YteoaegigjlhamaaWWords
import Derived.Test.YteoaegigjlhamaaWLast
import Derived.Test.YteoaegigjlhamaaWMore
namespace Go.Proofs.YteoaegigjlhamaaH
open Go.RowKit Go.Proofs.YteoaegigjlhamaaW.PrintWords Go.Proofs.YteoaegigjlhamaaW.PrintLast Go.Proofs.YteoaegigjlhamaaW.PrintMore
theorem Ev.succ {α:Type} {g:Nat→Option α} {r:α} (h:Ev (fun k=>g (k+1)) r):Ev g r:=Ev.step (fun _=>rfl) h
theorem Ev.ifp {α:Type} {c:Prop} [Decidable c] {A B:Nat→Option α} {r:α} (h:c) (e:Ev A r):Ev (fun k=>if c then A k else B k) r:=Ev.congr (fun _=>if_pos h) e
theorem Ev.ifn {α:Type} {c:Prop} [Decidable c] {A B:Nat→Option α} {r:α} (h: ¬ c) (e:Ev B r):Ev (fun k=>if c then A k else B k) r:=Ev.congr (fun _=>if_neg h) e
theorem Ev.bindc {α β:Type} {g:Option α} {f:Nat→α→Option β} {a:α} {r:β} (h:g=some a) (e:Ev (fun n=>f n a) r):Ev (fun n=>g.bind (f n)) r:=by
  subst h
  exact e
theorem Ev.ex {α:Type} {g:Nat→Option α} {r:α} (h:Ev g r): ∃ k,g k=some r:=Ev.rounds h
theorem Ev.val {α:Type} {g:Nat→Option α} {r q:α} (h:Ev g r) (e:r=q):Ev g q:=e▸h
theorem w64 {x:Int} (h0: -9223372036854775808≤x) (h1:x≤9223372036854775807):wrap64 x=x:=by
  unfold wrap64
  omega
theorem w32 {x:Int} (h0: -2147483648≤x) (h1:x≤2147483647):wrap32 x=x:=by
  unfold wrap32
  omega
end Go.Proofs.YteoaegigjlhamaaH
