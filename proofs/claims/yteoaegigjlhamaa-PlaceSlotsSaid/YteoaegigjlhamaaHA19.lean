/- Chapter 19: what of a row of clusters is told by cluster.Of: each begins where the one ahead ends, with one rune at least, from 0 to 2 slots wide. Conditions: whole numbers of 64 bits; fewer than a million runes. -/
import Derived.Test.YteoaegigjlhamaaPC19x3
import Derived.Test.YteoaegigjlhamaaHRnd
namespace Go.Proofs.Yteoaegigjlhamaa.PC19
open Go.RowKit Go.Proofs.YteoaegigjlhamaaW.PrintWords Go.Proofs.YteoaegigjlhamaaW.PrintLast Go.Proofs.YteoaegigjlhamaaW.PrintMore Go.Proofs.YteoaegigjlhamaaH
set_option linter.unusedVariables false
set_option linter.unusedSimpArgs false
abbrev Rn:=S36
abbrev Cl:=S40
abbrev Sl:=S42
def rng (c:Int):Prop:= -9223372036854775808≤c∧c≤9223372036854775807
def okR (r:Rn):Prop:=rng r.f0∧rng r.f1∧rng r.f2
abbrev rnA (l:List Rn) (i:Int):Rn:=rd_T36 l i
abbrev clA (l:List Cl) (i:Int):Cl:=rd_T40 l i
abbrev slA (l:List Sl) (i:Int):Sl:=rd_T42 l i
theorem mx_max (a b:Int):mx a b=max a b:=by unfold mx;split <;> omega
theorem kd_mem: ∀ (l:List gcb_Of.Row) (d c:Int),gcb_Of.kd l d c=d∨ ∃ r ∈ l,gcb_Of.kd l d c=r.k
  | [],d,c=> .inl rfl
  | r::l,d,c=>by
    unfold gcb_Of.kd
    split
    · rcases kd_mem l r.k c with h|⟨x,hx,h⟩
      · exact .inr ⟨r,by simp,h⟩
      · exact .inr ⟨x,by simp [hx],h⟩
    · exact .inl rfl
set_option maxRecDepth 100000 in
theorem kd_all: ∀ r ∈ gcb_Of.rowsL,0≤r.k∧r.k≤13:=by decide +kernel
theorem kd_range (c:Int):0≤gcb_Of.kd gcb_Of.rowsL 0 c∧gcb_Of.kd gcb_Of.rowsL 0 c≤13:=by
  rcases kd_mem gcb_Of.rowsL 0 c with h|⟨x,hx,h⟩
  · omega
  · have:=kd_all x hx
    omega
def gk (c:Int):Int:=gcb_Of.val c
theorem gk_range (c:Int):0≤gk c∧gk c≤13:=by
  have h:=kd_range c
  unfold gk gcb_Of.val gcb_Of.kindV
  split
  · omega
  split
  · omega
  split <;> omega
def cw (c:Int):Int:=if cols_Of.oddIn cols_Of.narrowL c=true then 0 else if cols_Of.oddIn cols_Of.wideL c=true then 2 else 1
theorem cw_eq (c:Int):cols_Of.f c=some (cw c):=rfl
theorem cw_range (c:Int):0≤cw c∧cw c≤2:=by
  unfold cw
  split
  · decide
  · split <;> decide
theorem see_eq (r:Rn) (h:rng r.f2):cluster_see.f r.f0 r.f1 r.f2=some (r.f0,r.f1,r.f2,gk r.f2,cw r.f2,gcb_Pict.oddIn gcb_Pict.L r.f2):=by
  unfold cluster_see.f
  rw [show gcb_Of.f r.f2=some (gk r.f2) from if_pos h,cw_eq]
  rfl
/-! ### clusters that follow one another -/
def Chn (l:List Rn):List Cl→Nat→Nat→Prop
  | [],n,m=>n=m
  | c::r,n,m=> ∃ q:Nat,n < q∧(c.f2=(n:Int)∧c.f3=(q:Int)∧0≤c.f4∧c.f4≤2∧c.f0=(rnA l n).f0∧c.f5=(rnA l n).f2)∧Chn l r q m
def Clu (l:List Rn) (c:Cl) (n q:Nat):Prop:=n < q∧(c.f2=(n:Int)∧c.f3=(q:Int)∧0≤c.f4∧c.f4≤2∧c.f0=(rnA l n).f0∧c.f5=(rnA l n).f2)
theorem Chn.snoc {l:List Rn}: ∀ {cs:List Cl} {n m q:Nat} {c:Cl},Chn l cs n m→Clu l c m q→Chn l (cs++[c]) n q
  | [],n,m,q,c,h,hc=>by
    cases (show n=m from h)
    exact ⟨q,hc.1,hc.2,rfl⟩
  | x::r,n,m,q,c,h,hc=>by
    obtain ⟨p,h1,h2,h3⟩:=h
    exact ⟨p,h1,h2,Chn.snoc h3 hc⟩
theorem Chn.le {l:List Rn}: ∀ {cs:List Cl} {n m:Nat},Chn l cs n m→n+cs.length≤m
  | [],n,m,h=>by
    have h:n=m:=h
    simp [h]
  | x::r,n,m,h=>by
    obtain ⟨p,h1,h2,h3⟩:=h
    have:=Chn.le h3
    simp only [List.length_cons]
    omega
theorem rnA_mid (pre:List Rn) (x:Rn) (r:List Rn):rnA (pre++x::r) (pre.length:Int)=x:=by
  unfold rnA rd_T36
  rw [Int.toNat_natCast,List.getD_eq_getElem?_getD,List.getElem?_append_right (Nat.le_refl _),Nat.sub_self]
  rfl
theorem clu_one (pre:List Rn) (r:Rn) (t:List Rn) (hl:pre.length < 1000000):Clu (pre++r::t) ⟨r.f0,r.f1,(pre.length:Int),wrap64 ((pre.length:Int)+1),if gk r.f2≥1 then (if gk r.f2≤3 then 0 else cw r.f2) else cw r.f2,r.f2⟩ pre.length (pre.length+1):=by
  have h:=cw_range r.f2
  refine ⟨by omega,rfl,?_,?_,?_,?_,?_⟩
  · show wrap64 ((pre.length:Int)+1)=_
    rw [w64 (by omega) (by omega)];omega
  · show (0:Int)≤(if gk r.f2≥1 then (if gk r.f2≤3 then 0 else cw r.f2) else cw r.f2)
    split
    · split <;> omega
    · omega
  · show (if gk r.f2≥1 then (if gk r.f2≤3 then 0 else cw r.f2) else cw r.f2)≤(2:Int)
    split
    · split <;> omega
    · omega
  · rw [rnA_mid]
  · rw [rnA_mid]
theorem clu_more {l:List Rn} {c:Cl} {n q:Nat} (h:Clu l c n q) (r1 r2 a3:Int) (a5:Bool) (b4:Int) (hb:0≤b4∧b4≤2):Clu l (cluster_Of.grow c r1 r2 a3 a5 b4 ((q:Int)+1)) n (q+1):=by
  obtain ⟨h1,h2,h3,h4,h5,h6,h7⟩:=h
  have hw:0≤(cluster_Of.grow c r1 r2 a3 a5 b4 ((q:Int)+1)).f4∧(cluster_Of.grow c r1 r2 a3 a5 b4 ((q:Int)+1)).f4≤2:=by
    unfold cluster_Of.grow
    simp only
    split
    · omega
    split
    · split
      · omega
      · omega
    · omega
  exact ⟨by omega,h2,rfl,hw.1,hw.2,h6,h7⟩
theorem set_last (out:List Cl) (x y:Cl):(out++[x]).set ((out++[x]).length - 1) y=out++[y]:=by
  rw [List.length_append,List.length_cons,List.length_nil,Nat.add_sub_cancel,List.set_append_right _ _ (Nat.le_refl _),Nat.sub_self]
  rfl
theorem get_last (out:List Cl) (x:Cl):(out++[x]).getD ((out++[x]).length - 1) z40=x:=by
  rw [List.length_append,List.length_cons,List.length_nil,Nat.add_sub_cancel,List.getD_eq_getElem?_getD,List.getElem?_append_right (Nat.le_refl _),Nat.sub_self]
  rfl
theorem joins_some (z0 z1 z2 z3 z4:Int) (z5:Bool) (z6 z7 y0 y1 y2 y3 y4:Int) (y5:Bool) (h0:0≤z3) (h1:z3≤13) (h2:0≤y3) (h3:y3≤13): ∃ b,cluster_seen_joins.f z0 z1 z2 z3 z4 z5 z6 z7 y0 y1 y2 y3 y4 y5=some b:=by
  unfold cluster_seen_joins.f
  rw [if_pos h0,if_pos (by omega),if_pos h2,if_pos (by omega)]
  exact ⟨_,rfl⟩
theorem lp_ex: ∀ (t pre:List Rn) (out:List Cl) (c:Cl) (n:Nat) (a0 a1 a2 a3 a4:Int) (a5:Bool) (a6 a7:Int),(∀ r ∈ t,okR r)→0≤a3∧a3≤13→pre.length+t.length < 1000000→Chn (pre++t) out 0 n→Clu (pre++t) c n pre.length →
    ∃ cs,cluster_Of.lp t (out++[c]) a0 a1 a2 a3 a4 a5 a6 a7 pre.length=some cs∧Chn (pre++t) cs 0 (pre++t).length
  | [],pre,out,c,n,a0,a1,a2,a3,a4,a5,a6,a7,ht,ha,hl,ho,hc=>by
    refine ⟨out++[c],rfl,?_⟩
    have:=Chn.snoc ho hc
    rwa [List.append_nil] at this ⊢
  | r::t,pre,out,c,n,a0,a1,a2,a3,a4,a5,a6,a7,ht,ha,hl,ho,hc=>by
    obtain ⟨h0,h1,h2⟩:=ht r (by simp)
    have ht': ∀ r ∈ t,okR r:=fun x hx=>ht x (by simp [hx])
    simp only [List.length_cons] at hl
    have hk:=gk_range r.f2
    have hn:=Chn.le ho
    have hq:=hc.1
    obtain ⟨j,hj⟩:=joins_some a0 a1 a2 a3 a4 a5 a6 a7 r.f0 r.f1 r.f2 (gk r.f2) (cw r.f2) (gcb_Pict.oddIn gcb_Pict.L r.f2) ha.1 ha.2 hk.1 hk.2
    unfold cluster_Of.lp
    rw [see_eq r h2]
    simp only [Option.bind_some]
    unfold cluster_seen_then.f
    simp only [Option.bind_some]
    rw [if_neg (by omega),hj]
    simp only [Option.bind_some]
    have e:pre++r::t=(pre++[r])++t:=by simp
    have e2:pre.length+1=(pre++[r]).length:=by simp
    rw [e2]
    cases j with
    | true =>
      rw [if_pos rfl,if_pos (by simp),set_last,get_last]
      have hc':=clu_more hc r.f1 r.f2 a3 a5 (cw r.f2) (cw_range r.f2)
      rw [e] at ho hc' ⊢
      rw [e2] at hc'
      exact lp_ex t (pre++[r]) out _ n _ _ _ _ _ _ _ _ ht' hk (by simp;omega) ho hc'
    | false =>
      rw [if_neg (by decide),if_pos (by simp only [List.length_append,List.length_cons,List.length_nil];omega)]
      unfold cluster_first.f
      simp only [Option.bind_some]
      have ho':=Chn.snoc ho hc
      have hc':=clu_one pre r t (by omega)
      rw [e] at ho' hc' ⊢
      rw [e2] at hc'
      exact lp_ex t (pre++[r]) (out++[c]) _ pre.length _ _ _ _ _ _ _ _ ht' hk (by simp;omega) ho' hc'
theorem of_ex (l:List Rn) (h: ∀ r ∈ l,okR r) (hl:l.length < 1000000): ∃ cs,cluster_Of.f l=some cs∧Chn l cs 0 l.length:=by
  cases l with
  | nil=>exact ⟨[],rfl,rfl⟩
  | cons r t =>
    obtain ⟨h0,h1,h2⟩:=h r (by simp)
    unfold cluster_Of.f cluster_Of.lp
    rw [see_eq r h2]
    simp only [Option.bind_some]
    unfold cluster_seen_then.f
    simp only [Option.bind_some]
    rw [if_pos trivial,if_pos (by simp)]
    unfold cluster_first.f
    simp only [Option.bind_some]
    exact lp_ex t [r] [] _ 0 _ _ _ _ _ _ _ _ (fun x hx=>h x (by simp [hx])) (gk_range r.f2) (by simp at hl ⊢;omega) rfl (clu_one [] r t (by decide))
theorem Chn.at {l:List Rn}: ∀ {cs:List Cl} {n m:Nat},Chn l cs n m→ ∀ i:Nat,i < cs.length→ ∃ a b:Nat,n≤a∧b≤m∧Clu l (clA cs i) a b
  | [],n,m,h,i,hi=>by simp at hi
  | x::r,n,m,h,i,hi=>by
    obtain ⟨q,h1,h2,h3⟩:=h
    cases i with
    | zero =>
      have:=Chn.le h3
      exact ⟨n,q,by omega,by omega,h1,h2⟩
    | succ i =>
      obtain ⟨a,b,ha,hb,hc⟩:=Chn.at h3 i (by simp at hi;omega)
      exact ⟨a,b,by omega,hb,hc⟩
theorem Chn.lt {l:List Rn}: ∀ {cs:List Cl} {n m:Nat},Chn l cs n m→ ∀ i j:Nat,i < j→j < cs.length→(clA cs i).f3≤(clA cs j).f2
  | [],n,m,h,i,j,hij,hj=>by simp at hj
  | x::r,n,m,h,i,j,hij,hj=>by
    obtain ⟨q,h1,h2,h3⟩:=h
    cases j with
    | zero=>omega
    | succ j =>
      cases i with
      | zero =>
        obtain ⟨a,b,ha,hb,hc⟩:=Chn.at h3 j (by simp at hj;omega)
        have e1:x.f3=(q:Int):=h2.2.1
        have e2:(clA r j).f2=(a:Int):=hc.2.1
        show x.f3≤(clA r j).f2
        omega
      | succ i=>exact Chn.lt h3 i j (by omega) (by simp at hj;omega)
end Go.Proofs.Yteoaegigjlhamaa.PC19
