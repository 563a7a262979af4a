/- Words for a loop's body over an iterator: a region of such a body may be walked by the plain words (no fence). Conditions: the region defers nothing, and nothing grows too great there. -/
import Derived.Test.YteoaegigjlhamaaWWords
import Derived.Test.YteoaegigjlhamaaWLast
import Derived.Test.YteoaegigjlhamaaWMore
import Derived.CallsIn
import Derived.ControlIn
import Derived.OrdersIn
import Derived.AtR
namespace Go.Proofs.YteoaegigjlhamaaH
open Go.RowKit Go.Proofs.YteoaegigjlhamaaW.PrintWords Go.Proofs.YteoaegigjlhamaaW.PrintLast Go.Proofs.YteoaegigjlhamaaW.PrintMore
def noDefer (ops:Array Oper):Bool:=ops.toList.all fun o=>match o.op with| .defer _=>false|_=>true
theorem noDefer_spec {ops:Array Oper} (h:noDefer ops=true) {i:Nat} {o:Oper} (ho:ops[i]?=some o): ∀ c,o.op≠ .defer c:=by
  intro c hc
  have h2:=List.all_eq_true.1 h o (by
    rw [← Array.getElem?_toList] at ho
    exact List.mem_of_getElem? ho)
  rw [hc] at h2
  cases h2
theorem rows_in {F:Fence} (hF:F=Fence.wide) {n:Nat} {P:Program} {row:String} {args:Array Value} {w:World} {R:Value→World→Prop} (h:Rows P row args w R):RowsIn F n P row args w R:=by
  subst hF
  intro c cs _
  obtain ⟨v,w',r,s⟩:=h c cs
  exact ⟨v,w',r,stepsIn_wide.2 s⟩
theorem rows_inR {l n:Nat} {P:Program} {row:String} {args:Array Value} {w:World} {R:Value→World→Prop} (h:Rows P row args w R):RowsIn (Fence.wide.inRound l) n P row args w R:=rows_in (F:=Fence.wide) rfl h
theorem calls_inR {l n:Nat} {P:Program} {f:FuncId} {args:Array Value} {w:World} {R:Ending→World→Prop} (h:Calls P f args w R):CallsIn (Fence.wide.inRound l) n P f args w R:=(callsIn_wide (n:=n)).2 h
theorem oper_inR {l n:Nat} {P:Program} {o:Oper} {a:Act} {w:World} {K K':Act→World→Prop} {Q:Exit→Act→World→Prop} (hd: ∀ c,o.op≠ .defer c) (hK: ∀ a w,K a w→K' a w) (h:o.wp P a w K Q):o.wpIn (Fence.wide.inRound l) n P a w K' Q:=by
  unfold Oper.wp at h
  unfold Oper.wpIn
  refine ⟨fun _ _=>trivial,?_⟩
  rw [Oper.semAt_eq _ _ _ hd]
  generalize (execOp a.eval o).run P w=r at h ⊢
  cases r with
  | ok x w' =>
    cases x <;> simp only [Oper.upon,Oper.uponIn] at h ⊢
    case value=>exact hK _ _ h
    case skip=>exact hK _ _ h
    case defer=>exact hK _ _ h
    case enter=>exact ⟨fun h2=>by simp [Fence.wide] at h2,calls_inR (h.mono fun e w'' he=>by cases e <;> first|exact hK _ _ he|exact he)⟩
    case row=>exact ⟨fun h2=>by simp [Fence.wide] at h2,rows_inR (h.mono fun _ _ he=>hK _ _ he)⟩
  | halt x w'=>cases x <;> simp only [Oper.upon,Oper.uponIn] at h ⊢ <;> exact h
theorem ops_inR {l n:Nat} {P:Program} {ops:Array Oper} {Q:Exit→Act→World→Prop} (hnd:noDefer ops=true) (hQ: ∀ a w,¬ Q .outgrown a w): ∀ (li:List Nat) (a:Act) (w:World),wpOps P ops Q li a w→wpOpsIn (Fence.wide.inRound l) n P ops Q li a w
  | [],_,_,h=>h
  | i::li,a,w,h=>by
    have ih:=ops_inR (l:=l) (n:=n) (P:=P) hnd hQ li
    simp only [wpOps] at h
    simp only [wpOpsIn]
    cases ho:ops[i]? with
    | none =>
      simp only [ho] at h ⊢
      exact ih _ _ h
    | some o =>
      simp only [ho] at h ⊢
      split
      · rename_i hw
        rw [if_pos hw] at h
        rcases h with h|⟨_,a2,w2,h⟩
        · exact oper_inR (noDefer_spec hnd ho) ih h
        · exact absurd h (hQ _ _)
      · rename_i hw
        rw [if_neg hw] at h
        exact ⟨fun _ _=>trivial,ih _ _ h⟩
theorem region_inR {l n id:Nat} {P:Program} {ops:Array Oper} {Q:Exit→Act→World→Prop} {a:Act} {w:World} (hnd:noDefer ops=true) (hQ: ∀ a w,¬ Q .outgrown a w) (h:wpList P ops Q ops.toList a w):(Code.region id ops false).wpIn (Fence.wide.inRound l) n P Q a w :=
  wpIn_region (ops_inR hnd hQ _ _ _ (by rw [List.range_eq_range',← Array.length_toList,wpOps_eq_wpList ops.toList 0 (by simp)];exact h))
end Go.Proofs.YteoaegigjlhamaaH
