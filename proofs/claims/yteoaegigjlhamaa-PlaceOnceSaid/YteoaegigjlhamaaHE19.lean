/- Chapter 19: how many slots of text a line has, and where a cluster's slots stand in it: once, side by side. Conditions: whole numbers of 64 bits; fewer than 100000 runes, whose places rise. -/
import Derived.Test.YteoaegigjlhamaaHD19
namespace Go.Proofs.Yteoaegigjlhamaa.PC19
open Go.RowKit Go.Proofs.YteoaegigjlhamaaW.PrintWords Go.Proofs.YteoaegigjlhamaaW.PrintLast Go.Proofs.YteoaegigjlhamaaW.PrintMore Go.Proofs.YteoaegigjlhamaaH
set_option linter.unusedVariables false
set_option linter.unusedSimpArgs false
def cnt (k:Int) (s:List Sl):Nat:=s.countP fun x=>x.f0==k
theorem cnt_app (k:Int) (a b:List Sl):cnt k (a++b)=cnt k a+cnt k b:=List.countP_append
theorem cnt_pads (k:Int) (h:k≠2) (n:Nat):cnt k (List.replicate n pad)=0:=by
  unfold cnt
  rw [List.countP_eq_zero]
  intro x hx
  rw [List.eq_of_mem_replicate hx]
  simp [pad]
  omega
theorem cnt_cel4 (c:Cl) (code:Int): ∀ (n p:Nat),cnt 4 (cel c code p n)=n
  | 0,p=>rfl
  | n+1,p=>by
    have h:=cnt_cel4 c code n (p+1)
    unfold cnt at h ⊢
    unfold cel
    rw [List.countP_cons_of_pos (by rfl),h]
theorem cnt_cel3 (c:Cl) (code:Int): ∀ (n p:Nat),cnt 3 (cel c code p n)=0
  | 0,p=>rfl
  | n+1,p=>by
    have h:=cnt_cel3 c code n (p+1)
    unfold cnt at h ⊢
    unfold cel
    rw [List.countP_cons_of_neg (by show ¬ ((4:Int)==3)=true;decide),h]
def sw (l:List Cl):Nat:=(l.map fun c=>c.f4.toNat).sum
theorem sw_cons (c:Cl) (l:List Cl):sw (c::l)=c.f4.toNat+sw l:=by simp [sw]
theorem sw_sen: ∀ (l:List Cl),sw (l.filter fun c=>decide (0 < c.f4))=sw l
  | []=>rfl
  | c::r=>by
    by_cases h:0 < c.f4
    · rw [List.filter_cons_of_pos (by simpa using h),sw_cons,sw_cons,sw_sen r]
    · rw [List.filter_cons_of_neg (by simpa using h),sw_cons,sw_sen r]
      omega
theorem row_len (lc:List Cl) (lv:List Int): ∀ o:List Int,(row lc lv o).length=(o.map fun a=>(clA lc a).f4.toNat).sum
  | []=>rfl
  | a::r=>by
    unfold row
    rw [List.length_append,cel_len,row_len lc lv r]
    simp
theorem row_cnt4 (lc:List Cl) (lv:List Int): ∀ o:List Int,cnt 4 (row lc lv o)=(row lc lv o).length
  | []=>rfl
  | a::r=>by
    unfold row
    rw [cnt_app,cnt_cel4,row_cnt4 lc lv r,List.length_append,cel_len]
theorem row_cnt3 (lc:List Cl) (lv:List Int): ∀ o:List Int,cnt 3 (row lc lv o)=0
  | []=>rfl
  | a::r=>by
    unfold row
    rw [cnt_app,cnt_cel3,row_cnt3 lc lv r]
theorem rg_map (l:List Cl): ∀ (t pre:List Cl),l=pre++t→(rg pre.length t.length).map (fun a=>(clA l a).f4.toNat)=t.map fun c=>c.f4.toNat
  | [],pre,h=>rfl
  | c::t,pre,h=>by
    have hc:clA l (pre.length:Int)=c:=by rw [h];exact clA_mid pre c t
    have ih:=rg_map l t (pre++[c]) (by rw [h];simp)
    rw [show (pre++[c]).length=pre.length+1 by simp] at ih
    show (clA l (pre.length:Int)).f4.toNat::(rg (pre.length+1) t.length).map _=_
    rw [hc,ih]
    rfl
theorem row_ord (lc:List Cl) (lv:List Int) (h:lv.length=lc.length):(row lc lv (ord lv)).length=sw lc:=by
  rw [row_len,((ord_perm lv).map _).sum_nat,h]
  have:=rg_map lc lc [] rfl
  rw [show ([]:List Cl).length=0 from rfl] at this
  rw [this]
  rfl
theorem fin_len (dots para:Int) (t:List Sl):(fin dots para t).length=t.length+if dots=1 then 1 else 0:=by
  unfold fin
  split
  · split
    · rfl
    · simp
  · rfl
theorem fin_cnt (k dots para:Int) (t:List Sl):cnt k (fin dots para t)=cnt k t+if dots=1∧k=3 then 1 else 0:=by
  have hd:cnt k [dot]=if k=3 then 1 else 0:=by
    unfold cnt
    by_cases h:k=3
    · rw [if_pos h,h];rfl
    · rw [if_neg h,List.countP_cons_of_neg (by simp [dot];omega)];rfl
  unfold fin
  by_cases h1:dots=1
  · rw [if_pos h1]
    have e: ∀ n:Nat,(if dots=1∧k=3 then n else 0)=if k=3 then n else 0:=fun n=>by simp [h1]
    rw [e]
    split
    · rw [show dot::t=[dot]++t from rfl,cnt_app,hd]
      omega
    · rw [cnt_app,hd]
  · rw [if_neg h1,if_neg (fun h=>h1 h.1)]
    rfl
def hit (A:Int) (x:Sl):Prop:=x.f0=4∧x.f3=A∧x.f4=0
theorem row_at (lc:List Cl) (lv:List Int): ∀ (o:List Int),∀ x ∈ row lc lv o,x.f0=4∧ ∃ a ∈ o,x.f3=(clA lc a).f0
  | [],x,h=>by simp [row] at h
  | a::r,x,h=>by
    unfold row at h
    rcases List.mem_append.1 h with h|h
    · have key: ∀ (n p:Nat),x ∈ cel (clA lc a) (SH (clA lc a).f5 (rd lv a)) p n→x.f0=4∧x.f3=(clA lc a).f0:=by
        intro n
        induction n with
        | zero=>intro p hx;simp [cel] at hx
        | succ n ih =>
          intro p hx
          unfold cel at hx
          rcases List.mem_cons.1 hx with rfl|hx
          · exact ⟨rfl,rfl⟩
          · exact ih (p+1) hx
      obtain ⟨h1,h2⟩:=key _ _ h
      exact ⟨h1,a,by simp,h2⟩
    · obtain ⟨h1,b,hb,h2⟩:=row_at lc lv r x h
      exact ⟨h1,b,by simp [hb],h2⟩
theorem cel_part (c:Cl) (code:Int): ∀ (n p:Nat),∀ x ∈ cel c code p n,(p:Int)≤x.f4
  | 0,p,x,h=>by simp [cel] at h
  | n+1,p,x,h=>by
    unfold cel at h
    rcases List.mem_cons.1 h with rfl|h
    · exact Int.le_refl _
    · have:=cel_part c code n (p+1) x h
      omega
theorem row_app (lc:List Cl) (lv:List Int): ∀ (a b:List Int),row lc lv (a++b)=row lc lv a++row lc lv b
  | [],b=>rfl
  | x::r,b=>by
    show cel _ _ 0 _++row lc lv (r++b)=(cel _ _ 0 _++row lc lv r)++row lc lv b
    rw [row_app lc lv r b,List.append_assoc]
theorem row_spot (lc:List Cl) (lv:List Int) (h:lv.length=lc.length) (hd: ∀ i j:Nat,i < lc.length→j < lc.length→i≠j→(clA lc (i:Int)).f0≠(clA lc (j:Int)).f0) (i:Nat) (hi:i < lc.length) :
    ∃ P Q code,row lc lv (ord lv)=P++(cel (clA lc (i:Int)) code 0 (clA lc (i:Int)).f4.toNat++Q)∧(∀ x ∈ P,¬ hit (clA lc (i:Int)).f0 x)∧ ∀ x ∈ Q,¬ hit (clA lc (i:Int)).f0 x:=by
  have hm:(i:Int) ∈ ord lv:=(ord_mem lv _).2 ⟨by omega,by omega⟩
  obtain ⟨a,b,hab⟩:=List.append_of_mem hm
  have hnd:(ord lv).Nodup:=(ord_perm lv).nodup_iff.2 (rg_nodup _ _)
  rw [hab,List.nodup_append] at hnd
  obtain ⟨_,hnb,hnab⟩:=hnd
  have hia:(i:Int) ∉ a:=fun h=>hnab _ h _ (by simp) rfl
  have hib:(i:Int) ∉ b:=(List.nodup_cons.1 hnb).1
  have key: ∀ o:List Int,(∀ x ∈ o,x ∈ ord lv)→(i:Int) ∉ o→ ∀ x ∈ row lc lv o,¬ hit (clA lc (i:Int)).f0 x:=fun o ho hio x hx hh=>by
    obtain ⟨_,j,hj,h3⟩:=row_at lc lv o x hx
    obtain ⟨j0,j1⟩:=(ord_mem lv j).1 (ho j hj)
    obtain ⟨n,rfl⟩:=Int.eq_ofNat_of_zero_le j0
    have hne:n≠i:=fun e=>hio (e▸hj)
    exact hd n i (by omega) hi hne (h3.symm.trans hh.2.1)
  refine ⟨row lc lv a,row lc lv b,SH (clA lc (i:Int)).f5 (rd lv (i:Int)),?_,key a (fun x hx=>by rw [hab];simp [hx]) hia,key b (fun x hx=>by rw [hab];simp [hx]) hib⟩
  rw [hab,row_app]
  rfl
theorem rise (l:List Rn) (hr: ∀ i:Nat,i+1 < l.length→(rnA l (i:Int)).f0 < (rnA l ((i+1:Nat):Int)).f0): ∀ (d i:Nat),i+d+1 < l.length→(rnA l (i:Int)).f0 < (rnA l ((i+d+1:Nat):Int)).f0
  | 0,i,h=>hr i (by omega)
  | d+1,i,h=>by
    have h1:=rise l hr d i (by omega)
    have h2:=hr (i+d+1) (by omega)
    rw [show i+(d+1)+1=i+d+1+1 by omega]
    omega
theorem chn_rise (l:List Rn) (hr: ∀ i:Nat,i+1 < l.length→(rnA l (i:Int)).f0 < (rnA l ((i+1:Nat):Int)).f0) (cs:List Cl) (hC:Chn l cs 0 l.length) (i j:Nat) (hij:i < j) (hj:j < cs.length):(clA cs (i:Int)).f0 < (clA cs (j:Int)).f0:=by
  obtain ⟨a,b,_,hb,hA⟩:=hC.at i (by omega)
  obtain ⟨a',b',_,hb',hA'⟩:=hC.at j hj
  have hlt:=hC.lt i j hij hj
  obtain ⟨p1,p2,p3,_,_,p4,_⟩:=hA
  obtain ⟨q1,q2,q3,_,_,q4,_⟩:=hA'
  rw [p4,q4]
  have:=rise l hr (a' - a - 1) a (by omega)
  rw [show a+(a' - a - 1)+1=a' by omega] at this
  exact this
end Go.Proofs.Yteoaegigjlhamaa.PC19
