/- Numbers that are told of by rows of rising ends: what they tell of a number they tell of the last end ahead of it. Conditions: none. -/
import Derived.Test.YteoaegigjlhamaaHEv
namespace Go.Proofs.YteoaegigjlhamaaH
open Go.RowKit Go.Proofs.YteoaegigjlhamaaW.PrintWords Go.Proofs.YteoaegigjlhamaaW.PrintLast Go.Proofs.YteoaegigjlhamaaW.PrintMore
set_option linter.unusedVariables false
set_option linter.unusedSimpArgs false
def rnd:List Int→Int→Int→Int
  | [],d,_=>d
  | x::r,d,c=>if x≤c then rnd r x c else d
def rup:List Int→Int→Bool
  | [],_=>true
  | x::r,d=>decide (d < x) && rup r x
theorem rup_gt: ∀ (S:List Int) (d:Int),rup S d=true→ ∀ x ∈ S,d < x
  | [],d,_,x,hx=>by simp at hx
  | y::r,d,h,x,hx=>by
    simp only [rup,Bool.and_eq_true,decide_eq_true_eq] at h
    rcases List.mem_cons.1 hx with rfl|hx
    · exact h.1
    · have:=rup_gt r y h.2 x hx
      omega
theorem rnd_mem: ∀ (S:List Int) (d c:Int),rnd S d c ∈ d::S
  | [],d,c=>by simp [rnd]
  | x::r,d,c=>by
    unfold rnd
    split
    · exact List.mem_cons_of_mem _ (rnd_mem r x c)
    · exact List.mem_cons_self
theorem rnd_iff: ∀ (S:List Int) (d c:Int),rup S d=true→ ∀ y ∈ S,(y≤c ↔ y≤rnd S d c)
  | [],d,c,_,y,hy=>by simp at hy
  | x::r,d,c,h,y,hy=>by
    have h1:=rup_gt _ _ h
    simp only [rup,Bool.and_eq_true,decide_eq_true_eq] at h
    have h2:=rup_gt r x h.2
    unfold rnd
    by_cases hx:x≤c
    · rw [if_pos hx]
      rcases List.mem_cons.1 hy with rfl|hy
      · have:y≤rnd r y c:=by
          rcases List.mem_cons.1 (rnd_mem r y c) with e|e
          · omega
          · have:=h2 _ e;omega
        omega
      · exact rnd_iff r x c h.2 y hy
    · rw [if_neg hx]
      have:=h1 y hy
      rcases List.mem_cons.1 hy with rfl|hy
      · omega
      · have:=h2 y hy
        omega
def inSp:List Int→Int→Bool
  | a::b::r,c=>(decide (a≤c) && decide (c≤b)) || inSp r c
  | _,_=>false
def spIn (S:List Int):List Int→Bool
  | a::b::r=>S.contains a && S.contains (b+1) && spIn S r
  | _=>true
theorem inSp_rnd (S:List Int) (d c:Int) (hS:rup S d=true): ∀ (l:List Int),spIn S l=true→inSp l c=inSp l (rnd S d c)
  | a::b::r,h=>by
    simp only [spIn,Bool.and_eq_true,List.contains_iff_mem] at h
    have h1:=rnd_iff S d c hS a h.1.1
    have h2:=rnd_iff S d c hS (b+1) h.1.2
    simp only [inSp]
    rw [inSp_rnd S d c hS r h.2]
    congr 1
    rw [Bool.eq_iff_iff]
    simp only [Bool.and_eq_true,decide_eq_true_eq]
    omega
  | [_],h=>rfl
  | [],h=>rfl
theorem band (n m:Int) (k:Nat) (hk:k≤62) (h:(BitVec.ofInt 64 m).toNat=2 ^ k - 1):bits .and .i64 n m=n % ((2 ^ k:Nat):Int):=by
  have key:(BitVec.ofInt 64 n &&& BitVec.ofInt 64 m).toNat=(n % ((2 ^ 64:Nat):Int)).toNat % 2 ^ k:=by
    rw [BitVec.toNat_and,BitVec.toNat_ofInt,h,Nat.and_two_pow_sub_one_eq_mod]
  show IntKind.i64.wrap ((BitVec.ofInt 64 n &&& BitVec.ofInt 64 m).toNat:Nat)=n % ((2 ^ k:Nat):Int)
  rw [key,IntKind.wrap_i64]
  have hd:((2 ^ k:Nat):Int) ∣ ((2 ^ 64:Nat):Int):=Int.ofNat_dvd.2 (Nat.pow_dvd_pow 2 (by omega))
  have h0:0≤n % ((2 ^ 64:Nat):Int):=Int.emod_nonneg _ (by decide)
  obtain ⟨q,hq⟩:=Int.eq_ofNat_of_zero_le h0
  have e1:n % ((2 ^ 64:Nat):Int) % ((2 ^ k:Nat):Int)=n % ((2 ^ k:Nat):Int):=Int.emod_emod_of_dvd n hd
  rw [hq] at e1 ⊢
  rw [← e1]
  have hp:2 ^ k≤2 ^ 62:=Nat.pow_le_pow_right (by decide) hk
  have hpos:0 < 2 ^ k:=Nat.two_pow_pos k
  have hm:q % 2 ^ k < 2 ^ k:=Nat.mod_lt _ hpos
  rw [Int.toNat_natCast]
  rw [show (((q % 2 ^ k:Nat)):Int)=(q:Int) % ((2 ^ k:Nat):Int) from by rw [Int.natCast_emod]] at *
  have e2:((q % 2 ^ k:Nat):Int)=(q:Int) % ((2 ^ k:Nat):Int):=Int.natCast_emod _ _
  have h2:(2:Nat) ^ 62=4611686018427387904:=by decide
  generalize (q:Int) % ((2 ^ k:Nat):Int)=z at *
  omega
theorem rd_mid (pre:List Int) (x:Int) (r:List Int):rd (pre++x::r) (pre.length:Int)=x:=by
  unfold rd
  rw [Int.toNat_natCast,List.getD_eq_getElem?_getD,List.getElem?_append_right (Nat.le_refl _),Nat.sub_self]
  rfl
theorem wf_i64 {x:Int} (h:(Lit.int .i64 x).wf=true): -9223372036854775808≤x∧x≤9223372036854775807:=by
  have h':=h
  simp [Lit.wf,IntKind.min,IntKind.max,IntKind.bits,IntKind.signed] at h'
  omega
end Go.Proofs.YteoaegigjlhamaaH
