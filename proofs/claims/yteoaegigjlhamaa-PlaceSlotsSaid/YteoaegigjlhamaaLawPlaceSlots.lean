/- For the laws of the group C19: the Lean functions that the Go functions compute, and proofs that they do. Written by wip/hprint.py of this repo over the kit's printer; nothing here is trusted: Lean checks it. -/
import Derived.Test.YteoaegigjlhamaaRows
import Derived.Test.YteoaegigjlhamaaPC19x14
import Derived.Test.YteoaegigjlhamaaPurePlaceSlots
import Derived.WalkKit
import Derived.ProofKit
import Derived.OpenShut
import Derived.ShutString
import Derived.ChangeOld
import Derived.Below
import Derived.SizedLaws
import Derived.Test.YteoaegigjlhamaaWSized
import Derived.Test.YteoaegigjlhamaaHRow
namespace Go.Proofs.Yteoaegigjlhamaa.placeSlots
open Go.ChangeShapes Go.WideShapes Go.ChangeAt Go.RowKit
open Go.ChangeMaps (open_string shut_string)
set_option linter.unusedVariables false
theorem own:ownKnob Try.prog.godebug=none:=by kernel_rfl
theorem laidOut:laidOutB Try.prog=true:=by kernel_rfl
def IsRow (k:IntKind) (w:World) (a:Option Addr) (len cap:Nat) (zs:List Int):Prop :=
  (a=none∧len=0∧cap=0∧zs=[]) ∨
  ∃ x,a=some x∧len≤cap∧cap≤maxLen∧zs.length=cap∧(∀ i,i < zs.length→w.cell? (x.add i)=some (.int k (zs.getD i 0)))∧ ∀ n ∈ zs,(Lit.int k n).wf=true
set_option maxRecDepth 100000 in
theorem lifted (os:Os) (started:os.Started) (H:Type) (enc:TypeId × Value→H) :
    ReturnsInHanded {} Try.checked os 3 .any (Rows.placeSlotsSpec.pre6 enc Try.prog Try.f3 Rows.placeSlotsRow.domain false) (Rows.placeSlotsSpec.post enc Try.prog Try.f3 false true false false):=by
  refine returnsInHanded_of_change_sized (C:=Try.checked) own started (by kernel_rfl) Try.func3
    (ChangeSpec.witness6 (enc:=enc) (C:=Try.checked) false ⟨#[],#[.slice none 0 0,.slice none 0 0,.agg #[.int .i64 0,.int .i64 0,.int .i64 0,.int .i64 0,.int .i64 0],.int .i64 0,.int .i64 0,.int .i64 0],[]⟩ 8 (by kernel_rfl) (by kernel_rfl) (by kernel_rfl) (by kernel_rfl)) ?_
  intro W base args ds gs before hval0 hW hcnd hsz0 _
  have hsz:(DataW.weightsEach Try.prog (Try.f3.params.toList++Rows.placeSlotsSpec.plain.varTypes Try.prog) (ds++gs)).all (· ≤reachBytes)=true:=hsz0
  have hval: ∀ (j:Nat) t v,Try.f3.params[j]?=some t→args[j]?=some v→Value.okWide Try.prog W .any base t v:=hval0
  have hW':=hW
  obtain ⟨p,q,hA0,hV,rfl,hfz,hnd⟩:=hW
  have hA:DataW.TrodAll enc Try.prog W 0 (fun _=>true) true Try.f3.params.toList args.toList ds p:=hA0
  rw [Try.params3] at hA hval hsz
  obtain ⟨v0,vs0,d0,ds0,p0,q0,hargs,rfl,rfl,h0,r0⟩:=trodAll_cons hA
  obtain ⟨v1,vs1,d1,ds1,p1,q1,rfl,rfl,rfl,h1,r1⟩:=trodAll_cons r0
  obtain ⟨v2,vs2,d2,ds2,p2,q2,rfl,rfl,rfl,h2,r2⟩:=trodAll_cons r1
  obtain ⟨v3,vs3,d3,ds3,p3,q3,rfl,rfl,rfl,h3,r3⟩:=trodAll_cons r2
  obtain ⟨v4,vs4,d4,ds4,p4,q4,rfl,rfl,rfl,h4,r4⟩:=trodAll_cons r3
  obtain ⟨v5,vs5,d5,ds5,p5,q5,rfl,rfl,rfl,h5,r5⟩:=trodAll_cons r4
  obtain ⟨rfl,rfl,rfl⟩:=trodAll_nil r5
  obtain rfl:args= #[v0,v1,v2,v3,v4,v5]:=by cases args;simp_all
  obtain ⟨rfl,rfl⟩:=trodVars_none hV
  obtain ⟨a0,len0,cap0,rfl⟩:=okWide_slice Try.underlying22 (hval 0 22 v0 rfl rfl)
  have k0:=h0
  have lt0: ∀ x ∈ p0,x.block < W.heap.size:=by obtain ⟨m,hm⟩:=k0;exact DataW.trod_lt m _ _ _ hm
  have y0:len0 * 24≤140737488351232:=Go.Proofs.YteoaegigjlhamaaH.sized_structs hsz (j:=0) (t:=22) rfl rfl Try.underlying22 (by kernel_rfl) h0
  obtain ⟨l0,rfl,hr0,hc0,hm0,hw0⟩: ∃ l:List PC19.S36,l.length=len0∧Go.Proofs.YteoaegigjlhamaaW.PrintWords.Kd.C PC19.k36 W a0 len0 l∧len0≤cap0∧len0≤maxLen∧ ∀ x ∈ l,(Lit.int .i64 x.f0).wf=true∧(Lit.int .i64 x.f1).wf=true∧(Lit.int .i64 x.f2).wf=true:=by
    obtain ⟨fuel,hf⟩:=h0
    rcases Go.Proofs.YteoaegigjlhamaaH.open_structs 3 Try.underlying3 Try.underlying22 Try.underlying36 (by kernel_rfl) (by kernel_rfl) (by kernel_rfl) hf with hcs|⟨x,l,c,Z,hcs,hl,hm,hz⟩
    · simp [Value.cells] at hcs
      obtain ⟨rfl,rfl,rfl⟩:=hcs
      exact ⟨[],rfl,⟨rfl,Nat.zero_le _,fun h=>absurd h (Nat.lt_irrefl _)⟩,Nat.le_refl _,Nat.zero_le _,fun x hx=>by simp at hx⟩
    · simp [Value.cells] at hcs
      obtain ⟨rfl,rfl,rfl⟩:=hcs
      have hz0: ∀ i,i < len0→ ∀ j,j < 3→W.cell? (x.add (i * 3+j))=some (.int .i64 (Z i j))∧(Lit.int .i64 (Z i j)).wf=true:=hz
      refine ⟨(List.range len0).map (fun i=>(⟨Z i 0,Z i 1,Z i 2⟩:PC19.S36)),by simp,Go.Proofs.YteoaegigjlhamaaH.structs_C PC19.k36 (fun z=>(⟨z 0,z 1,z 2⟩:PC19.S36)) (fun w z=>PC19.k36_mk w _) W x len0 (Nat.le_trans hl hm) Z (fun i hi j hj=>(hz0 i hi j hj).1),hl,Nat.le_trans hl hm,fun y hy=>?_⟩
      obtain ⟨q,hq,rfl⟩:=List.mem_map.1 hy
      have hq:=List.mem_range.1 hq
      exact ⟨(hz0 q hq 0 (by decide)).2,(hz0 q hq 1 (by decide)).2,(hz0 q hq 2 (by decide)).2⟩
  obtain ⟨a1,len1,cap1,rfl⟩:=okWide_slice Try.underlying23 (hval 1 23 v1 rfl rfl)
  have k1:=h1
  have lt1: ∀ x ∈ p1,x.block < W.heap.size:=by obtain ⟨m,hm⟩:=k1;exact DataW.trod_lt m _ _ _ hm
  obtain ⟨z1,w1⟩: ∃ zs,IsRow .i64 W a1 len1 cap1 zs:=by
    obtain ⟨fuel,hf⟩:=h1
    rcases open_ints Try.underlying23 Try.underlying3 (by kernel_rfl) hf with ⟨hcs,_⟩|⟨x,l,c,zs,hcs,_,hl,hm,hz,_,hcell,hwz⟩
    · simp [Value.cells] at hcs
      obtain ⟨rfl,rfl,rfl⟩:=hcs
      exact ⟨[],.inl ⟨rfl,rfl,rfl,rfl⟩⟩
    · simp [Value.cells] at hcs
      obtain ⟨rfl,rfl,rfl⟩:=hcs
      exact ⟨zs,.inr ⟨_,rfl,hl,hm,by simpa using hz,hcell,hwz⟩⟩
  have y1:len1 * 8≤140737488351232:=Go.Proofs.YteoaegigjlhamaaW.PrintWords.sized_ints hsz (j:=1) (t:=23) rfl rfl Try.underlying23 Try.underlying3 (by kernel_rfl) (by kernel_rfl) h1
  have k2:=h2
  have lt2: ∀ x ∈ p2,x.block < W.heap.size:=by obtain ⟨m,hm⟩:=k2;exact DataW.trod_lt m _ _ _ hm
  obtain ⟨Z2,rfl,hZ2⟩:=Go.Proofs.YteoaegigjlhamaaH.open_one 3 Try.underlying3 Try.underlying25 (by kernel_rfl) (by kernel_rfl) (by kernel_rfl) (hval 2 25 v2 rfl rfl) h2
  have hZ2: ∀ j,j < 5→(Lit.int .i64 (Z2 j)).wf=true:=hZ2
  obtain ⟨a3,rfl,rfl,rfl,w3⟩:=open_int Try.underlying3 (hval 3 3 v3 rfl rfl) h3
  obtain ⟨a4,rfl,rfl,rfl,w4⟩:=open_int Try.underlying3 (hval 4 3 v4 rfl rfl) h4
  obtain ⟨a5,rfl,rfl,rfl,w5⟩:=open_int Try.underlying3 (hval 5 3 v5 rfl rfl) h5
  clear hA0 hval0 hsz0 hsz
  refine (PC19.y_PlaceSlots.walk Pure.PlaceSlots a0 cap0 l0 a1 len1 cap1 z1 (Z2 0) (Z2 1) (Z2 2) (Z2 3) (Z2 4) a3 a4 a5 W hr0 hc0 hm0 y0 hw0 w1 y1 (hZ2 0 (by decide)) (hZ2 1 (by decide)) (hZ2 2 (by decide)) (hZ2 3 (by decide)) (hZ2 4 (by decide)) w3 w4 w5).mono fun e W' ⟨he,bel⟩=>?_
  subst he
  exact ⟨_,rfl,_,_,_,[],_,[],hW',trodAll_mk1 (shut_bool Try.underlying4 _),(trodAll_cons_mk (Below.trod laidOut (by kernel_rfl) (of_decide_eq_true (by kernel_rfl)) k0 bel lt0) (trodAll_cons_mk (Below.trod laidOut (by kernel_rfl) (of_decide_eq_true (by kernel_rfl)) k1 bel lt1) (trodAll_cons_mk (Below.trod laidOut (by kernel_rfl) (of_decide_eq_true (by kernel_rfl)) k2 bel lt2) (trodAll_cons_mk (shut_int Try.underlying3 w3) (trodAll_cons_mk (shut_int Try.underlying3 w4) (trodAll_cons_mk (shut_int Try.underlying3 w5) trodAll_mk0)))))),rfl,bel.frame _,fun h=>by cases h⟩
theorem over:Rows.placeSlotsRow.holds Try.pinned (OpenSpec.ofChange Rows.placeSlotsSpec) :=
  OpenClaim.holds_of_wide 3 Try.f3 rfl rfl rfl rfl rfl rfl rfl ⟨rfl,rfl,rfl,rfl,rfl⟩ rfl rfl rfl rfl rfl (by kernel_rfl) Try.func3 (by kernel_rfl)
    (of_decide_eq_true (by kernel_rfl)) (by unfold Func.isWrapper;first|(rw [if_pos (by decide +kernel)];kernel_rfl)|(rw [if_neg (by decide +kernel)];exact ⟨rfl,rfl⟩))
    (fun os started H enc _=>lifted os started H enc)
theorem proved:Rows.PlaceSlotsSaid:=over
#print axioms proved
end Go.Proofs.Yteoaegigjlhamaa.placeSlots
namespace Go.Proofs.Yteoaegigjlhamaa
theorem placeSlots_holds:Rows.PlaceSlotsSaid:=placeSlots.proved
end Go.Proofs.Yteoaegigjlhamaa
