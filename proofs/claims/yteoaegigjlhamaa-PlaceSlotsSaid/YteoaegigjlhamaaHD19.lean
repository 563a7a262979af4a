/- Chapter 19: which slots a line of text has: of text and of dots, no pads; and the slots at places of what is laid out. Conditions: none of their own. -/
import Derived.Test.YteoaegigjlhamaaHC19
namespace Go.Proofs.Yteoaegigjlhamaa.PC19
open Go.RowKit Go.Proofs.YteoaegigjlhamaaW.PrintWords Go.Proofs.YteoaegigjlhamaaW.PrintLast Go.Proofs.YteoaegigjlhamaaW.PrintMore Go.Proofs.YteoaegigjlhamaaH
set_option linter.unusedVariables false
set_option linter.unusedSimpArgs false
theorem slA_getq (l:List Sl) (i:Nat) (x:Sl) (h:l[i]?=some x):slA l (i:Int)=x:=by
  unfold slA rd_T42
  rw [Int.toNat_natCast,List.getD_eq_getElem?_getD,h]
  rfl
theorem slA_mid (pre:List Sl) (x:Sl) (r:List Sl) (i:Int) (h:i=(pre.length:Int)):slA (pre++x::r) i=x:=by
  subst h
  refine slA_getq _ _ _ ?_
  rw [List.getElem?_append_right (Nat.le_refl _),Nat.sub_self]
  rfl
def tk (x:Sl):Prop:=x.f0=4∨x.f0=3
theorem cel_tk (c:Cl) (code:Int): ∀ (n p:Nat),∀ x ∈ cel c code p n,tk x
  | 0,p,x,h=>by simp [cel] at h
  | n+1,p,x,h=>by
    unfold cel at h
    rcases List.mem_cons.1 h with rfl|h
    · exact .inl rfl
    · exact cel_tk c code n (p+1) x h
theorem row_tk (lc:List Cl) (lv:List Int): ∀ (o:List Int),∀ x ∈ row lc lv o,tk x
  | [],x,h=>by simp [row] at h
  | a::r,x,h=>by
    unfold row at h
    rcases List.mem_append.1 h with h|h
    · exact cel_tk _ _ _ _ x h
    · exact row_tk lc lv r x h
theorem fin_tk (dots para:Int) (t:List Sl) (h: ∀ x ∈ t,tk x): ∀ x ∈ fin dots para t,tk x:=by
  intro x hx
  unfold fin at hx
  split at hx
  · split at hx
    · rcases List.mem_cons.1 hx with rfl|hx
      · exact .inr rfl
      · exact h x hx
    · rcases List.mem_append.1 hx with hx|hx
      · exact h x hx
      · rcases List.mem_singleton.1 hx with rfl
        exact .inr rfl
  · exact h x hx
theorem txt_tk (l0:List Rn) (l1:List Int) (cs:List Cl) (fr tt sh dots para:Int): ∀ x ∈ txt l0 l1 cs fr tt sh dots para,tk x:=fin_tk _ _ _ (row_tk _ _ _)
theorem same_ne (x:Sl): ¬ (!(x.f0==x.f0) || (!(x.f1==x.f1) || (!(x.f2==x.f2) || (!(x.f3==x.f3) || (!(x.f4==x.f4) || (!(x.f5==x.f5)))))))=true:=by simp
end Go.Proofs.Yteoaegigjlhamaa.PC19
