/- Words for the rows of laws whose arguments are rows of structs of whole numbers, or such structs: what an argument holds. Conditions: none of its own. -/
import Derived.Test.YteoaegigjlhamaaWSized
import Derived.Test.YteoaegigjlhamaaWMore
import Derived.Deep.Slices
import Derived.Deep.Fields
import Derived.ChangeSame
import Derived.SizedLaws
import Derived.OpenShut
namespace Go.Proofs.YteoaegigjlhamaaH
open Go.ChangeShapes Go.WideShapes Go.Deep
set_option linter.unusedVariables false
section
variable {H : Type} {enc : TypeId × Value → H} {P : Program} {w : World} {base : Nat} {spare : Nat → Bool} {held : Bool}
theorem open_nums {e:TypeId} {fs:Array Field} {fuel:Nat} {cs:List Value} {x:DataW H × List MemPlace} (he:P.underlying e=some (.struct fs)) (hone:oneCellFields P fs=true) (hC:P.cellsOf e=fs.size)
    (hint: ∀ (j:Nat) (f:Field),fs[j]?=some f→P.underlying f.type=some (.int .i64)) (h:DataW.trod enc P w base spare held fuel e cs=some x) :
    cs.length=fs.size∧ ∀ j,j < fs.size→ ∃ z:Int,cs[j]?=some (.int .i64 z)∧(Lit.int .i64 z).wf=true:=by
  obtain ⟨ys,n,_,_,hl,hyl,hf⟩:=DataW.trod_struct he h
  rw [hC] at hl
  refine ⟨hl,fun j hj=>?_⟩
  have hfj:=Array.getElem?_eq_getElem hj
  obtain ⟨ho,hk⟩:=hone_of hone j _ hfj
  have h1:=hf j _ hfj
  rw [ho,hk,List.drop_eq_getElem_cons (by omega),List.take_succ_cons,List.take_zero,List.getElem?_eq_getElem (by omega)] at h1
  obtain ⟨z,h2,_,h3⟩:=DataW.trod_int (hint j _ hfj) h1
  refine ⟨z,?_,h3⟩
  rw [List.getElem?_eq_getElem (by omega)]
  exact congrArg some (List.cons.inj h2).1
theorem all_int {fs:Array Field} (ti:TypeId) (hti:P.underlying ti=some (.int .i64)) (hall:(fs.toList.all fun f=>f.type==ti)=true): ∀ (j:Nat) (f:Field),fs[j]?=some f→P.underlying f.type=some (.int .i64):=fun j f hj=>by
  have h1:=List.all_eq_true.1 hall f (by rw [Array.mem_toList_iff];exact Array.mem_of_getElem? hj)
  rw [eq_of_beq h1]
  exact hti
theorem open_structs {t e:TypeId} (ti:TypeId) (hti:P.underlying ti=some (.int .i64)) {fs:Array Field} {fuel:Nat} {cs:List Value} {x:DataW H × List MemPlace} (ht:P.underlying t=some (.slice e)) (he:P.underlying e=some (.struct fs)) (hone:oneCellFields P fs=true) (hC:P.cellsOf e=fs.size)
    (hall:(fs.toList.all fun f=>f.type==ti)=true) (h:DataW.trod enc P w base spare held fuel t cs=some x) :
    cs=[.slice none 0 0]∨ ∃ (a:Addr) (len cap:Nat) (Z:Nat→Nat→Int),cs=[.slice (some a) len cap]∧len≤cap∧cap≤maxLen∧ ∀ i,i < len→ ∀ j,j < fs.size→w.cell? (a.add (i * fs.size+j))=some (.int .i64 (Z i j))∧(Lit.int .i64 (Z i j)).wf=true:=by
  have hint:=all_int ti hti hall
  rcases open_slice ht h with h0|⟨a,len,cap,m,n,D,Pl,hcs,hb,hl,hm,hmm,hx,hi⟩
  · exact .inl h0.1
  · have key: ∀ i j:Nat,∃ z:Int,i < len→j < fs.size→w.cell? (a.add (i * fs.size+j))=some (.int .i64 z)∧(Lit.int .i64 z).wf=true:=fun i j=>by
      by_cases h1:i < len
      · by_cases h2:j < fs.size
        · have him:i < m:=by
            rw [hmm]
            split
            · omega
            · exact h1
          obtain ⟨cs',hc,ht'⟩:=hi i him
          obtain ⟨_,hcl,hat⟩:=World.cells?_some hc
          obtain ⟨_,hz⟩:=open_nums he hone hC hint ht'
          obtain ⟨z,h3,h4⟩:=hz j h2
          rw [hC] at hat
          refine ⟨z,fun _ _=>⟨?_,h4⟩⟩
          rw [← add_add]
          exact (hat j h2).trans h3
        · exact ⟨0,fun _ h=>absurd h h2⟩
      · exact ⟨0,fun h=>absurd h h1⟩
    exact .inr ⟨a,len,cap,fun i j=>Classical.choose (key i j),hcs,hl,hm,fun i h1 j h2=>Classical.choose_spec (key i j) h1 h2⟩
theorem sized_structs {t e:TypeId} {a:Option Addr} {len cap:Nat} {d:DataW H} {ps:List MemPlace} {ts:List TypeId} {ds:List (DataW H)} {j:Nat}
    (hsz:(DataW.weightsEach P ts ds).all (· ≤reachBytes)=true) (ht:ts[j]?=some t) (hd:ds[j]?=some d) (hu:P.underlying t=some (.slice e)) {B:Nat} (hB:P.bytesOf e=B)
    (h:DataW.Trod enc P w base spare held t (.slice a len cap) d ps):len * B≤140737488351232:=by
  obtain ⟨fuel,hf⟩:=h
  rcases open_slice hu hf with ⟨hcs,_⟩|⟨x,l,c,m,n,D,Pl,hcs,hb,hl,hm,hmm,hx,hi⟩
  · simp [Value.cells] at hcs
    obtain ⟨rfl,rfl,rfl⟩:=hcs
    simp
  · simp [Value.cells] at hcs
    obtain ⟨rfl,rfl,rfl⟩:=hcs
    obtain ⟨hx,_⟩:=Prod.mk.inj hx
    subst hx
    have z:=sized_slice hsz ht hd hu
    rw [hB] at z
    refine Nat.le_trans (Nat.mul_le_mul_right _ ?_) z
    simp
theorem open_one {r:Reach} {b0:Nat} {t:TypeId} (ti:TypeId) (hti:P.underlying ti=some (.int .i64)) {fs:Array Field} {v:Value} {d:DataW H} {p:List MemPlace} (he:P.underlying t=some (.struct fs)) (hone:oneCellFields P fs=true) (hC:P.cellsOf t=fs.size)
    (hall:(fs.toList.all fun f=>f.type==ti)=true) (hv:Value.okWide P w r b0 t v) (h:DataW.Trod enc P w base spare held t v d p) :
    ∃ Z:Nat→Int,v= .agg ((List.range fs.size).map fun j=> .int .i64 (Z j)).toArray∧ ∀ j,j < fs.size→(Lit.int .i64 (Z j)).wf=true:=by
  obtain ⟨cs,rfl,hsz⟩:=okWide_struct he hv
  obtain ⟨fuel,hf⟩:=h
  obtain ⟨hl,hz⟩:=open_nums he hone hC (all_int ti hti hall) hf
  have key: ∀ j:Nat,∃ z:Int,j < fs.size→cs[j]?=some (.int .i64 z)∧(Lit.int .i64 z).wf=true:=fun j=>by
    by_cases hj:j < fs.size
    · obtain ⟨z,h1,h2⟩:=hz j hj
      exact ⟨z,fun _=>⟨by simpa [Value.cells] using h1,h2⟩⟩
    · exact ⟨0,fun h=>absurd h hj⟩
  refine ⟨fun j=>Classical.choose (key j),?_,fun j hj=>(Classical.choose_spec (key j) hj).2⟩
  congr 1
  have hl2:cs.size=fs.size:=by simpa [Value.cells] using hl
  apply Array.ext
  · simp [hl2]
  · intro j h1 h2
    have h3:=(Classical.choose_spec (key j) (by omega)).1
    have h4:=(Array.getElem?_eq_getElem h1).symm.trans h3
    simpa using Option.some.inj h4
end
open Go.RowKit Go.Proofs.YteoaegigjlhamaaW.PrintWords in
theorem structs_C {α:Type} (d:Kd α) (mk:(Nat→Int)→α) (hK: ∀ (w:World) (z:Nat→Int),d.K w (mk z) ((List.range d.sz).map fun j=> .int .i64 (z j))) (W:World) (a:Addr) (len:Nat) (hm:len≤maxLen) (Z:Nat→Nat→Int)
    (hz: ∀ i,i < len→ ∀ j,j < d.sz→W.cell? (a.add (i * d.sz+j))=some (.int .i64 (Z i j))):d.C W (some a) len ((List.range len).map fun i=>mk (Z i)):=by
  refine ⟨by simp,by simpa [maxLen] using hm,fun _=>⟨a,rfl,fun j p hj=>?_⟩⟩
  obtain ⟨h1,h2⟩:=List.getElem?_eq_some_iff.1 hj
  have h3:j < len:=by simpa using h1
  obtain rfl:mk (Z j)=p:=by simpa using h2
  refine ⟨_,by simp,hK W (Z j),fun i u hu=>?_⟩
  obtain ⟨h4,h5⟩:=List.getElem?_eq_some_iff.1 hu
  have h6:i < d.sz:=by simpa using h4
  obtain rfl:Value.int .i64 (Z j i)=u:=by simpa using h5
  exact hz j h3 i h6
end Go.Proofs.YteoaegigjlhamaaH
