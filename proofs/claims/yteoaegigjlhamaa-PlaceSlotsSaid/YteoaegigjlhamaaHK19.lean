/- Chapters 4, 5 and 6 for chapter 19: how wide code points are, their kinds, and the clusters of runes: cluster.Of and the document's Of tell the same. Conditions: whole numbers of 64 bits; at most 100000 runes. -/
import Derived.Test.YteoaegigjlhamaaPC19x3
import Derived.Test.YteoaegigjlhamaaPC19x9
import Derived.Test.YteoaegigjlhamaaHEv
import Derived.Test.YteoaegigjlhamaaPC19x3
import Derived.Test.YteoaegigjlhamaaPC19x3
import Derived.Test.YteoaegigjlhamaaPC19x8
import Derived.Test.YteoaegigjlhamaaPC19x8
import Derived.Test.YteoaegigjlhamaaHRnd
import Derived.Test.YteoaegigjlhamaaPC19x3
import Derived.Test.YteoaegigjlhamaaPC19x9
import Derived.Test.YteoaegigjlhamaaPC19x13
import Derived.Test.YteoaegigjlhamaaPC19x10
namespace Go.Proofs.Yteoaegigjlhamaa.PC19.Q04
open Go.Proofs.Yteoaegigjlhamaa.PC19
open Go.RowKit Go.Proofs.YteoaegigjlhamaaW.PrintWords Go.Proofs.YteoaegigjlhamaaW.PrintLast Go.Proofs.YteoaegigjlhamaaW.PrintMore Go.Proofs.YteoaegigjlhamaaH
set_option linter.unusedVariables false
set_option linter.unusedSimpArgs false
def inL:List Int→Int→Bool
  | a::b::r,c=>(decide (a≤c) && decide (c≤b)) || inL r c
  | _,_=>false
def half:List Int→List Int
  | a::b::r=>a::(b+1)::half r
  | _=>[]
def up:List Int→Bool
  | a::b::r=>decide (a < b) && up (b::r)
  | _=>true
theorem up_gt: ∀ (r:List Int) (a:Int),up (a::r)=true→ ∀ x ∈ r,a < x
  | [],a,_,x,hx=>by simp at hx
  | b::r,a,h,x,hx=>by
    simp only [up,Bool.and_eq_true,decide_eq_true_eq] at h
    rcases List.mem_cons.1 hx with rfl|hx
    · exact h.1
    · have:=up_gt r b h.2 x hx
      omega
theorem up_tail (a:Int) (r:List Int) (h:up (a::r)=true):up r=true:=by
  cases r with
  | nil=>rfl
  | cons b r=>simp only [up,Bool.and_eq_true] at h;exact h.2
theorem count_none (l:List Int) (c:Int) (h: ∀ x ∈ l,c < x):l.countP (fun x=>decide (x≤c))=0:=by
  rw [List.countP_eq_zero]
  intro x hx
  have:=h x hx
  simp
  omega
theorem count_all (l:List Int) (c:Int) (h: ∀ x ∈ l,x≤c):l.countP (fun x=>decide (x≤c))=l.length:=by
  rw [List.countP_eq_length]
  intro x hx
  exact decide_eq_true (h x hx)
theorem odd_half: ∀ (l:List Int) (c:Int),up (half l)=true→cols_Of.oddIn (half l) c=inL l c
  | a::b::r,c,h=>by
    have h2:=up_tail _ _ h
    have h3:=up_tail _ _ h2
    have hab:=up_gt _ _ h (b+1) (by simp)
    have ih:=odd_half r c h3
    have g1: ∀ x ∈ half r,b+1 < x:=up_gt _ _ h2
    unfold cols_Of.oddIn at ih ⊢
    simp only [half,inL,List.countP_cons]
    by_cases h4:c < a
    · have e:=count_none (half r) c (fun x hx=>by have:=g1 x hx;omega)
      rw [e] at ih ⊢
      rw [← ih]
      simp [show ¬ a≤c by omega,show ¬ b+1≤c by omega]
    · by_cases h5:c < b+1
      · have e:=count_none (half r) c (fun x hx=>by have:=g1 x hx;omega)
        rw [e]
        simp [show a≤c by omega,show ¬ b+1≤c by omega,show c≤b by omega]
      · simp only [show a≤c by omega,show b+1≤c by omega,show ¬ c≤b by omega,decide_true,decide_false,if_true,Bool.and_false,Bool.false_or]
        rw [← ih]
        congr 1
        omega
  | [_],c,h=>rfl
  | [],c,h=>rfl
theorem in_l0 (R:List Int) (hR:R.length < 1000000) (c:Int): ∀ (r pre:List Int),R=pre++r→r.length % 2=0→Ev (fun k=>q04_in.l0 k R c (pre.length:Int)) (inL r c)
  | [],pre,h,he=>by
    refine Ev.succ ?_
    simp only [q04_in.l0]
    exact Ev.ifn (by rw [h];simp) (Ev.now _)
  | [_],pre,h,he=>by simp at he
  | a::b::r,pre,h,he=>by
    have hl:R.length=pre.length+(r.length+2):=by rw [h];simp
    have e1:rd R (pre.length:Int)=a:=by
      unfold rd
      rw [Int.toNat_natCast,h,List.getD_eq_getElem?_getD,List.getElem?_append_right (Nat.le_refl _),Nat.sub_self]
      rfl
    have e2:rd R ((pre.length:Int)+1)=b:=by
      unfold rd
      rw [show ((pre.length:Int)+1).toNat=pre.length+1 by omega,h,List.getD_eq_getElem?_getD,List.getElem?_append_right (by omega),show pre.length+1 - pre.length=1 by omega]
      rfl
    have ih:=in_l0 R hR c r (pre++[a,b]) (by rw [h];simp) (by simp only [List.length_cons] at he;omega)
    have e3:wrap64 ((pre.length:Int)+2)=((pre++[a,b]).length:Int):=by rw [w64 (by omega) (by omega)];simp
    refine Ev.succ ?_
    simp only [q04_in.l0]
    rw [e1,e3,w64 (x:=(pre.length:Int)+1) (by omega) (by omega),e2]
    simp only [inL]
    refine Ev.ifp (by omega) (Ev.ifp (by omega) ?_)
    by_cases ha:a≤c
    · refine Ev.ifp ha (Ev.ifp (by omega) (Ev.ifp (by omega) ?_))
      by_cases hb:c≤b
      · exact Ev.ifp hb (Ev.val (Ev.now _) (by simp [ha,hb]))
      · exact Ev.ifn hb (Ev.val ih (by simp [ha,hb]))
    · exact Ev.ifn ha (Ev.val ih (by simp [ha]))
def narrowR:List Int:=(q04_Narrow.f).getD []
def wideR:List Int:=(q04_Wide.f).getD []
set_option maxRecDepth 100000 in
theorem half_narrow:half narrowR=cols_Of.narrowL:=by decide +kernel
set_option maxRecDepth 100000 in
theorem half_wide:half wideR=cols_Of.wideL:=by decide +kernel
def colsV (c:Int):Int:=if cols_Of.oddIn cols_Of.narrowL c=true then 0 else if cols_Of.oddIn cols_Of.wideL c=true then 2 else 1
theorem of_eq (c:Int):cols_Of.f c=some (colsV c):=rfl
theorem colsV_range (c:Int):0≤colsV c∧colsV c≤2:=by
  unfold colsV
  split
  · omega
  · split <;> omega
set_option maxRecDepth 100000 in
theorem refOf_ev (c:Int):Ev (fun k=>q04_Of.f k c) (colsV c):=by
  have h1:cols_Of.oddIn cols_Of.narrowL c=inL narrowR c:=by rw [← half_narrow];exact odd_half narrowR c (by decide +kernel)
  have h2:cols_Of.oddIn cols_Of.wideL c=inL wideR c:=by rw [← half_wide];exact odd_half wideR c (by decide +kernel)
  unfold q04_Of.f colsV
  rw [h1,h2]
  refine Ev.bindc (show q04_Narrow.f=some narrowR from rfl) ?_
  unfold q04_in.f
  refine Ev.bind (in_l0 narrowR (by decide +kernel) c narrowR [] rfl (by decide +kernel)) ?_
  by_cases hn:inL narrowR c=true
  · exact Ev.ifp hn (Ev.val (Ev.now _) (by rw [if_pos hn]))
  · refine Ev.ifn hn (Ev.bindc (show q04_Wide.f=some wideR from rfl) (Ev.bind (in_l0 wideR (by decide +kernel) c wideR [] rfl (by decide +kernel)) ?_))
    rw [if_neg hn]
    by_cases hw:inL wideR c=true
    · exact Ev.ifp hw (Ev.val (Ev.now _) (by rw [if_pos hw]))
    · exact Ev.ifn hw (Ev.val (Ev.now _) (by rw [if_neg hw]))
end Go.Proofs.Yteoaegigjlhamaa.PC19.Q04
namespace Go.Proofs.Yteoaegigjlhamaa.PC19.Q05
open Go.Proofs.Yteoaegigjlhamaa.PC19
open Go.RowKit Go.Proofs.YteoaegigjlhamaaW.PrintWords Go.Proofs.YteoaegigjlhamaaW.PrintLast Go.Proofs.YteoaegigjlhamaaW.PrintMore Go.Proofs.YteoaegigjlhamaaH
set_option linter.unusedVariables false
set_option linter.unusedSimpArgs false
def gk (c:Int):Int:=gcb_Of.val c
def pk (c:Int):Bool:=gcb_Pict.oddIn gcb_Pict.L c
def rng (c:Int):Prop:= -9223372036854775808≤c∧c≤9223372036854775807
theorem of_eq (c:Int) (h:rng c):gcb_Of.f c=some (gk c):=if_pos h
theorem pict_eq (c:Int):gcb_Pict.f c=some (pk c):=rfl
theorem kd_rnd (S:List Int) (d c:Int) (hS:rup S d=true): ∀ (l:List gcb_Of.Row) (k0:Int),(l.all fun r=>S.contains r.f)=true→gcb_Of.kd l k0 c=gcb_Of.kd l k0 (rnd S d c)
  | [],k0,_=>rfl
  | r::l,k0,h=>by
    simp only [List.all_cons,Bool.and_eq_true,List.contains_iff_mem] at h
    have h1:=rnd_iff S d c hS r.f h.1
    unfold gcb_Of.kd
    by_cases h2:r.f≤c
    · rw [if_pos h2,if_pos (h1.1 h2)]
      exact kd_rnd S d c hS l r.k h.2
    · rw [if_neg h2,if_neg (fun h3=>h2 (h1.2 h3))]
def rowT (t:Int):List Int:=(q05_Row.f t).getD []
theorem row_eq (t:Int):q05_Row.f t=some (rowT t):=by
  unfold rowT q05_Row.f
  repeat (first|rfl|split)
def refF:Nat→Int→Int→Int
  | 0,_,_=>0
  | n+1,t,c=>if inSp (rowT t) c=true then t else refF n (t+1) c
def ends:List Int:=gcb_Of.rowsL.map fun r=>r.f
set_option maxRecDepth 100000 in
theorem ends_up:rup ends (-1)=true:=by decide +kernel
set_option maxRecDepth 100000 in
theorem ends_all:(gcb_Of.rowsL.all fun r=>ends.contains r.f)=true:=by decide +kernel
def rowsIn:Nat→Int→Bool
  | 0,_=>true
  | n+1,t=>spIn ends (rowT t) && decide ((rowT t).length % 2=0) && decide ((rowT t).length < 1000000) && rowsIn n (t+1)
set_option maxRecDepth 100000 in
theorem rows_in:rowsIn 11 1=true:=by decide +kernel
theorem refF_rnd: ∀ (n:Nat) (t c:Int),rowsIn n t=true→refF n t c=refF n t (rnd ends (-1) c)
  | 0,_,_,_=>rfl
  | n+1,t,c,h=>by
    simp only [rowsIn,Bool.and_eq_true] at h
    unfold refF
    rw [← inSp_rnd ends (-1) c ends_up _ h.1.1.1,← refF_rnd n (t+1) c h.2]
set_option maxRecDepth 100000 in
theorem kinds_at: ∀ x ∈ (-1)::ends,gcb_Of.kd gcb_Of.rowsL 0 x=refF 11 1 x:=by decide +kernel
theorem kinds_eq (c:Int):gcb_Of.kd gcb_Of.rowsL 0 c=refF 11 1 c:=by
  rw [kd_rnd ends (-1) c ends_up _ _ ends_all,refF_rnd 11 1 c rows_in]
  exact kinds_at _ (rnd_mem _ _ _)
theorem in_l0 (R:List Int) (hR:R.length < 1000000) (c:Int): ∀ (r pre:List Int),R=pre++r→r.length % 2=0→Ev (fun k=>q05_in.l0 k R c (pre.length:Int)) (inSp r c)
  | [],pre,h,he=>by
    refine Ev.succ ?_
    simp only [q05_in.l0]
    exact Ev.ifn (by rw [h];simp) (Ev.now _)
  | [_],pre,h,he=>by simp at he
  | a::b::r,pre,h,he=>by
    have hl:R.length=pre.length+(r.length+2):=by rw [h];simp
    have e1:rd R (pre.length:Int)=a:=by rw [h];exact rd_mid pre a (b::r)
    have e2:rd R ((pre.length:Int)+1)=b:=by
      have:=rd_mid (pre++[a]) b r
      rw [List.length_append,List.append_assoc] at this
      rw [h]
      simpa using this
    have ih:=in_l0 R hR c r (pre++[a,b]) (by rw [h];simp) (by simp only [List.length_cons] at he;omega)
    have e3:wrap64 ((pre.length:Int)+2)=((pre++[a,b]).length:Int):=by rw [w64 (by omega) (by omega)];simp
    refine Ev.succ ?_
    simp only [q05_in.l0]
    rw [e1,e3,w64 (x:=(pre.length:Int)+1) (by omega) (by omega),e2]
    simp only [inSp]
    refine Ev.ifp (by omega) (Ev.ifp (by omega) ?_)
    by_cases ha:a≤c
    · refine Ev.ifp ha (Ev.ifp (by omega) (Ev.ifp (by omega) ?_))
      by_cases hb:c≤b
      · exact Ev.ifp hb (Ev.val (Ev.now _) (by simp [ha,hb]))
      · exact Ev.ifn hb (Ev.val ih (by simp [ha,hb]))
    · exact Ev.ifn ha (Ev.val ih (by simp [ha]))
theorem in_ev (R:List Int) (hR:R.length < 1000000) (he:R.length % 2=0) (c:Int):Ev (fun k=>q05_in.f k R c) (inSp R c):=by
  unfold q05_in.f
  exact in_l0 R hR c R [] rfl he
theorem refOf_l1 (c:Int): ∀ (n:Nat) (t:Int),1≤t→t+n=12→rowsIn n t=true→Ev (fun k=>q05_Of.l1 k c t) (refF n t c)
  | 0,t,h1,h2,_=>by
    refine Ev.succ ?_
    simp only [q05_Of.l1]
    exact Ev.ifn (by omega) (Ev.now _)
  | n+1,t,h1,h2,h=>by
    simp only [rowsIn,Bool.and_eq_true,decide_eq_true_eq] at h
    have ih:=refOf_l1 c n (t+1) (by omega) (by omega) h.2
    refine Ev.succ ?_
    simp only [q05_Of.l1]
    refine Ev.ifp (by omega) (Ev.bindc (row_eq t) (Ev.bind (in_ev _ h.1.2 h.1.1.2 c) ?_))
    unfold refF
    by_cases hi:inSp (rowT t) c=true
    · exact Ev.ifp hi (Ev.val (Ev.now _) (by rw [if_pos hi]))
    · rw [if_neg hi,w64 (x:=t+1) (by omega) (by omega)]
      exact Ev.ifn hi ih
theorem refOf_l0 (c:Int): ∀ (n:Nat) (x:Int),x=55204 - 28 * (n:Int)→n≤399→(c < 44032∨c > 55203∨x≤c)→Ev (fun k=>q05_Of.l0 k c x) (gk c)
  | 0,x,hx,hn,h=>by
    refine Ev.succ ?_
    simp only [q05_Of.l0]
    refine Ev.ifn (by omega) (Ev.val (refOf_l1 c 11 1 (by omega) (by omega) rows_in) ?_)
    rw [← kinds_eq]
    unfold gk gcb_Of.val
    by_cases h0:c < 0
    · rw [if_pos h0]
      have:gcb_Of.kd gcb_Of.rowsL 0 c=0:=by
        unfold gcb_Of.rowsL gcb_Of.kd
        exact if_neg (by show ¬ (0:Int)≤c;omega)
      exact this
    · rw [if_neg h0]
      unfold gcb_Of.kindV
      rw [if_pos (by omega)]
  | n+1,x,hx,hn,h=>by
    refine Ev.succ ?_
    simp only [q05_Of.l0]
    refine Ev.ifp (by omega) ?_
    have e:wrap64 (x+28)=x+28:=w64 (by omega) (by omega)
    have hgk:44032≤c→c≤55203→gk c=if (c - 44032) % 28=0 then 12 else 13:=fun h1 h2=>by
      unfold gk gcb_Of.val gcb_Of.kindV
      rw [if_neg (by omega),if_neg (by omega),Int.tmod_eq_emod_of_nonneg (by omega)]
    rw [e]
    by_cases h1:c=x
    · refine Ev.ifp h1 (Ev.val (Ev.now _) ?_)
      rw [hgk (by omega) (by omega),if_pos (by omega)]
    · refine Ev.ifn h1 ?_
      by_cases h2:c > x
      · refine Ev.ifp h2 ?_
        by_cases h3:c < x+28
        · refine Ev.ifp h3 (Ev.val (Ev.now _) ?_)
          rw [hgk (by omega) (by omega),if_neg (by omega)]
        · exact Ev.ifn h3 (refOf_l0 c n (x+28) (by omega) (by omega) (by omega))
      · exact Ev.ifn h2 (refOf_l0 c n (x+28) (by omega) (by omega) (by omega))
theorem refOf_ev (c:Int):Ev (fun k=>q05_Of.f k c) (gk c):=by
  unfold q05_Of.f
  exact refOf_l0 c 399 44032 (by omega) (by omega) (by omega)
def pR:List Int:=q05_Picts.L
theorem oddIn_rnd (S:List Int) (d c:Int) (hS:rup S d=true) (l:List Int) (h:(l.all fun x=>S.contains x)=true):gcb_Pict.oddIn l c=gcb_Pict.oddIn l (rnd S d c):=by
  unfold gcb_Pict.oddIn
  rw [List.countP_congr (q:=fun x=>decide (x≤rnd S d c))]
  intro x hx
  have:=List.all_eq_true.1 h x hx
  rw [List.contains_iff_mem] at this
  have:=rnd_iff S d c hS x this
  simp only [decide_eq_true_eq]
  exact this
set_option maxRecDepth 100000 in
theorem picts_up:rup gcb_Pict.L 0=true:=by decide +kernel
set_option maxRecDepth 100000 in
theorem picts_in:spIn gcb_Pict.L pR=true:=by decide +kernel
set_option maxRecDepth 100000 in
theorem picts_all:(gcb_Pict.L.all fun x=>gcb_Pict.L.contains x)=true:=by decide +kernel
set_option maxRecDepth 100000 in
theorem picts_at: ∀ x ∈ 0::gcb_Pict.L,gcb_Pict.oddIn gcb_Pict.L x=inSp pR x:=by decide +kernel
theorem refPict_ev (c:Int):Ev (fun k=>q05_Pict.f k c) (pk c):=by
  unfold q05_Pict.f
  refine Ev.bindc (show q05_Picts.f=some pR from rfl) (Ev.bind (in_ev pR (by decide +kernel) (by decide +kernel) c) (Ev.val (Ev.now _) ?_))
  unfold pk
  rw [oddIn_rnd _ 0 c picts_up _ picts_all,inSp_rnd _ 0 c picts_up _ picts_in]
  exact (picts_at _ (rnd_mem _ _ _)).symm
end Go.Proofs.Yteoaegigjlhamaa.PC19.Q05
namespace Go.Proofs.Yteoaegigjlhamaa.PC19.C6
open Go.RowKit Go.Proofs.YteoaegigjlhamaaW.PrintWords Go.Proofs.YteoaegigjlhamaaW.PrintLast Go.Proofs.YteoaegigjlhamaaW.PrintMore Go.Proofs.YteoaegigjlhamaaH
set_option linter.unusedVariables false
set_option linter.unusedSimpArgs false
open Q05 (gk pk rng)
open Q04 (colsV)
/-! ### kinds and pictographs -/
def mrg:List Int→List Int→Nat→List Int
  | _,_,0=>[]
  | [],b,_=>b
  | a,[],_=>a
  | x::a,y::b,n+1=>if x < y then x::mrg a (y::b) n else if y < x then y::mrg (x::a) b n else x::mrg a b n
def bothL:List Int:=mrg Q05.ends gcb_Pict.L 2000
set_option maxRecDepth 100000 in
theorem both_up:rup bothL (-1)=true:=by decide +kernel
set_option maxRecDepth 100000 in
theorem both_k:(gcb_Of.rowsL.all fun r=>bothL.contains r.f)=true:=by decide +kernel
set_option maxRecDepth 100000 in
theorem both_p:(gcb_Pict.L.all fun x=>bothL.contains x)=true:=by decide +kernel
set_option maxRecDepth 100000 in
theorem both_at: ∀ x ∈ (-1)::bothL,gcb_Pict.oddIn gcb_Pict.L x=true→(gcb_Of.kd gcb_Of.rowsL 0 x=0∨6≤gcb_Of.kd gcb_Of.rowsL 0 x):=by decide +kernel
set_option maxRecDepth 100000 in
theorem kd_at: ∀ x ∈ (-1)::bothL,0≤gcb_Of.kd gcb_Of.rowsL 0 x∧gcb_Of.kd gcb_Of.rowsL 0 x≤13:=by decide +kernel
theorem kd_range (c:Int):0≤gcb_Of.kd gcb_Of.rowsL 0 c∧gcb_Of.kd gcb_Of.rowsL 0 c≤13:=by
  rw [Q05.kd_rnd bothL (-1) c both_up _ _ both_k]
  exact kd_at _ (rnd_mem _ _ _)
theorem gk_cases (c:Int):gk c=0∨gk c=gcb_Of.kd gcb_Of.rowsL 0 c∨gk c=12∨gk c=13:=by
  unfold Q05.gk gcb_Of.val gcb_Of.kindV
  split
  · exact .inl rfl
  split
  · exact .inr (.inl rfl)
  split
  · exact .inr (.inr (.inl rfl))
  · exact .inr (.inr (.inr rfl))
theorem gk_range (c:Int):0≤gk c∧gk c≤13:=by
  have h:=kd_range c
  rcases gk_cases c with e|e|e|e <;> omega
theorem pk_gk (c:Int) (h:pk c=true):gk c=0∨6≤gk c:=by
  have h1:gcb_Pict.oddIn gcb_Pict.L (rnd bothL (-1) c)=true:=by
    rw [← Q05.oddIn_rnd bothL (-1) c both_up _ both_p]
    exact h
  have h2:=both_at _ (rnd_mem bothL (-1) c) h1
  rw [← Q05.kd_rnd bothL (-1) c both_up _ _ both_k] at h2
  rcases gk_cases c with e|e|e|e <;> omega
theorem kinds14 (P:Int→Prop) (h: ∀ n:Nat,n < 14→P (n:Int)) (c:Int):P (gk c):=by
  obtain ⟨h0,h1⟩:=gk_range c
  obtain ⟨n,hn⟩:=Int.eq_ofNat_of_zero_le h0
  rw [hn]
  exact h n (by omega)
/-! ### which rune joins -/
def fl:List Int→Nat
  | []=>0
  | c::r=>if gk c=6 then fl r+1 else 0
def tie:List Int→Int
  | []=>0
  | c::r=>cluster_seen_then.tie (gk c) (pk c) (tie r)
def Jb (pre:List Int) (b:Int):Bool:=match pre with
  | []=>false
  | a::_=>cluster_seen_joins.jn (gk a) (gk b) || (pk b && tie pre==2) || (gk b==6 && fl pre % 2==1)
theorem fl_cons (c:Int) (r:List Int):fl (c::r)=if gk c=6 then fl r+1 else 0:=rfl
theorem fl_len: ∀ pre,fl pre≤pre.length
  | []=>Nat.le_refl _
  | c::r=>by
    have:=fl_len r
    unfold fl
    split
    · simp only [List.length_cons];omega
    · omega
theorem joins_eq (a:Int) (pre:List Int) (z0 z1 z2 z4 y0 y1 y2 y4:Int) (b:Int):cluster_seen_joins.f z0 z1 z2 (gk a) z4 (pk a) (tie (a::pre)) (fl (a::pre):Int) y0 y1 y2 (gk b) y4 (pk b)=some (Jb (a::pre) b):=by
  have h1:=gk_range a
  have h2:=gk_range b
  unfold cluster_seen_joins.f
  rw [if_pos h1.1,if_pos (by omega),if_pos h2.1,if_pos (by omega)]
  unfold Jb
  congr 1
  have hm:(Int.tmod ((fl (a::pre):Nat):Int) 2==1)=(fl (a::pre) % 2==1):=by
    rw [Int.tmod_eq_emod_of_nonneg (by omega),Bool.eq_iff_iff,beq_iff_eq,beq_iff_eq]
    omega
  rw [hm]
  cases hj:cluster_seen_joins.jn (gk a) (gk b) <;> cases hb:pk b <;> cases ht:(tie (a::pre)==2) <;> cases h6:(gk b==6) <;> simp [hj]
theorem then_eq (z0 z1 z2 z4 y0 y1 y2 y4:Int) (a:Int) (b:Int) (pre:List Int) (hl:pre.length < 1000000) (w:Int):cluster_seen_then.f z0 z1 z2 (gk a) z4 (pk a) (tie pre) (fl pre:Int) y0 y1 y2 (gk b) y4 (pk b)=some (y0,y1,y2,gk b,y4,pk b,tie (b::pre),(fl (b::pre):Int)):=by
  unfold cluster_seen_then.f cluster_seen_then.flag
  have h:=fl_len pre
  congr 1
  simp only [Prod.mk.injEq,true_and]
  refine ⟨rfl,?_⟩
  rw [fl_cons]
  by_cases h6:gk b=6
  · rw [if_pos h6,if_pos (beq_iff_eq.2 h6),w64 (by omega) (by omega)]
    rfl
  · rw [if_neg h6,if_neg (fun e=>h6 (beq_iff_eq.1 e))]
    rfl
/-! ### the document's Joins -/
def aln (k:Int):Bool:=k==1 || (k==2 || k==3)
theorem alone_eq (k:Int):q06_alone.f k=some (aln k):=by
  unfold q06_alone.f aln
  by_cases h1:k=1
  · simp [h1]
  · by_cases h2:k=2
    · simp [h2]
    · rw [if_neg h1,if_neg h2,beq_eq_false_iff_ne.2 h1,beq_eq_false_iff_ne.2 h2]
      rfl
def sylV (a b:Int):Bool:=(q06_syllable.f a b).getD false
theorem syl_eq (a b:Int):q06_syllable.f a b=some (sylV a b):=by
  unfold sylV
  unfold q06_syllable.f
  repeat (first|rfl|split)
def twoV (a b:Int):Bool:=(a==1 && b==2) || (!aln a && !aln b && (b==4 || b==5 || b==8 || a==7)) || sylV a b
set_option maxRecDepth 100000 in
theorem two_all: ∀ n:Nat,n < 14→ ∀ m:Nat,m < 14→cluster_seen_joins.jn (n:Int) (m:Int)=twoV (n:Int) (m:Int):=by decide +kernel
theorem two_eq (a b:Int):cluster_seen_joins.jn (gk a) (gk b)=twoV (gk a) (gk b) :=
  kinds14 (fun x=>cluster_seen_joins.jn x (gk b)=twoV x (gk b)) (fun n hn=>kinds14 (fun y=>cluster_seen_joins.jn (n:Int) y=twoV (n:Int) y) (fun m hm=>two_all n hn m hm) b) a
def near:List Int→Bool
  | []=>false
  | c::r=>if gk c=4 then near r else pk c
theorem tie_near: ∀ pre,(tie pre==1)=near pre
  | []=>rfl
  | c::r=>by
    have ih:=tie_near r
    unfold tie near cluster_seen_then.tie
    by_cases hp:pk c=true
    · have:=pk_gk c hp
      rw [if_pos hp,if_neg (by omega),hp]
      rfl
    · rw [if_neg hp]
      by_cases h4:gk c=4
      · rw [if_pos (beq_iff_eq.2 h4),if_pos h4,← ih]
        cases (tie r==1) <;> rfl
      · rw [if_neg (fun e=>h4 (beq_iff_eq.1 e)),if_neg h4]
        have hpf:pk c=false:=by simpa using hp
        rw [hpf]
        by_cases h5:gk c=5
        · rw [if_pos (beq_iff_eq.2 h5)]
          cases (tie r==1) <;> rfl
        · rw [if_neg (fun e=>h5 (beq_iff_eq.1 e))]
          rfl
theorem tie_two (c:Int) (r:List Int):(tie (c::r)==2)=(gk c==5 && near r):=by
  have ih:=tie_near r
  unfold tie cluster_seen_then.tie
  by_cases hp:pk c=true
  · have:=pk_gk c hp
    rw [if_pos hp,beq_eq_false_iff_ne.2 (show gk c≠5 by omega)]
    rfl
  · rw [if_neg hp]
    by_cases h4:gk c=4
    · rw [if_pos (beq_iff_eq.2 h4),h4]
      cases (tie r==1) <;> rfl
    · rw [if_neg (fun e=>h4 (beq_iff_eq.1 e))]
      by_cases h5:gk c=5
      · rw [if_pos (beq_iff_eq.2 h5),beq_iff_eq.2 h5,← ih]
        cases (tie r==1) <;> rfl
      · rw [if_neg (fun e=>h5 (beq_iff_eq.1 e)),beq_eq_false_iff_ne.2 h5]
        rfl
theorem rd_rev (r pre:List Int) (c:Int) (t:List Int):rd ((c::r).reverse++t) (r.length:Int)=c:=by
  rw [List.reverse_cons,List.append_assoc]
  have:=rd_mid r.reverse c t
  rw [List.length_reverse] at this
  exact this
section
variable (codes : List Int) (hl : codes.length < 1000000)
include hl
theorem j4_ev (i a b:Int) (pre t:List Int) (hc:codes=(a::pre).reverse++b::t) (hi:i=(pre.length:Int)+1):Ev (fun k=>q06_Joins.j4 k codes i (gk a) (gk b)) (gk b==6 && fl (a::pre) % 2==1):=by
  have hlen:codes.length=pre.length+1+(t.length+1):=by rw [hc];simp;try omega
  have l1: ∀ (q p:List Int) (n:Nat),p=q→n+q.length=pre.length→ ∀ u,codes=q.reverse++u→Ev (fun k=>q06_Joins.l1 k codes (n:Int) ((q.length:Int) - 1)) ((n+fl q) % 2==0):=by
    intro q
    induction q with
    | nil =>
      intro p n _ hn u hu
      refine Ev.succ ?_
      simp only [q06_Joins.l1]
      refine Ev.ifn (by simp) (Ev.val (Ev.now _) ?_)
      rw [Int.tmod_eq_emod_of_nonneg (by omega),Bool.eq_iff_iff,beq_iff_eq,beq_iff_eq]
      unfold fl
      omega
    | cons c r ih =>
      intro p n hp hn u hu
      simp only [List.length_cons] at hn
      refine Ev.succ ?_
      simp only [q06_Joins.l1]
      have e1:((c::r).length:Int) - 1=(r.length:Int):=by simp
      rw [e1]
      have hr:rd codes (r.length:Int)=c:=by rw [hu];exact rd_rev r pre c u
      rw [hr]
      refine Ev.ifp (by omega) (Ev.ifp (by omega) (Ev.ifp (by omega) (Ev.bind (Q05.refOf_ev c) ?_)))
      unfold fl
      by_cases h6:gk c=6
      · rw [if_pos h6]
        refine Ev.ifp h6 ?_
        have:=ih r (n+1) rfl (by omega) ([c]++u) (by rw [hu];simp)
        rw [w64 (by omega) (by omega),w64 (by omega) (by omega),show (n:Int)+1=((n+1:Nat):Int) by omega,show n+(fl r+1)=n+1+fl r by omega]
        exact this
      · rw [if_neg h6]
        refine Ev.ifn h6 (Ev.val (Ev.now _) ?_)
        rw [Int.tmod_eq_emod_of_nonneg (by omega),Bool.eq_iff_iff,beq_iff_eq,beq_iff_eq]
        omega
  refine Ev.succ ?_
  simp only [q06_Joins.j4]
  by_cases ha:gk a=6
  · refine Ev.ifp ha (Ev.succ ?_)
    simp only [q06_Joins.j5]
    by_cases hb:gk b=6
    · refine Ev.ifp (beq_iff_eq.2 hb) ?_
      have:=l1 pre pre 0 rfl (by omega) (a::b::t) (by rw [hc];simp)
      rw [w64 (by omega) (by omega),hi,show (pre.length:Int)+1 - 2=(pre.length:Int) - 1 by omega]
      refine Ev.val this ?_
      rw [fl_cons,if_pos ha,beq_iff_eq.2 hb,Bool.eq_iff_iff]
      simp only [Bool.true_and,beq_iff_eq]
      omega
    · refine Ev.ifn (fun e=>hb (beq_iff_eq.1 e)) (Ev.val (Ev.now _) ?_)
      rw [beq_eq_false_iff_ne.2 hb]
      rfl
  · refine Ev.ifn ha (Ev.succ ?_)
    simp only [q06_Joins.j5]
    refine Ev.ifn (by decide) (Ev.val (Ev.now _) ?_)
    rw [fl_cons,if_neg ha]
    cases (gk b==6) <;> rfl
theorem jl0_ev (i a b:Int) (pre t:List Int) (hc:codes=(a::pre).reverse++b::t) (hi:i=(pre.length:Int)+1): ∀ (q u:List Int),codes=q.reverse++u→Ev (fun k=>q06_Joins.l0 k codes i (gk a) (gk b) ((q.length:Int) - 1)) (near q || (gk b==6 && fl (a::pre) % 2==1)):=by
  intro q
  induction q with
  | nil =>
    intro u hu
    refine Ev.succ ?_
    simp only [q06_Joins.l0]
    exact Ev.ifn (by simp) (j4_ev codes hl i a b pre t hc hi)
  | cons c r ih =>
    intro u hu
    have hlen:codes.length=r.length+1+u.length:=by rw [hu];simp;try omega
    refine Ev.succ ?_
    simp only [q06_Joins.l0]
    have e1:((c::r).length:Int) - 1=(r.length:Int):=by simp
    rw [e1]
    have hr:rd codes (r.length:Int)=c:=by rw [hu];exact rd_rev r pre c u
    rw [hr]
    refine Ev.ifp (by omega) (Ev.ifp (by omega) (Ev.ifp (by omega) (Ev.bind (Q05.refOf_ev c) ?_)))
    unfold near
    by_cases h4:gk c=4
    · rw [if_pos h4]
      refine Ev.ifp h4 ?_
      rw [w64 (by omega) (by omega)]
      exact ih ([c]++u) (by rw [hu];simp)
    · rw [if_neg h4]
      refine Ev.ifn h4 (Ev.bind (Q05.refPict_ev c) ?_)
      cases hp:pk c with
      | true=>exact Ev.ifp rfl (Ev.now _)
      | false=>exact Ev.ifn (by decide) (Ev.val (j4_ev codes hl i a b pre t hc hi) rfl)
theorem joins_ev (a b:Int) (pre t:List Int) (hc:codes=(a::pre).reverse++b::t):Ev (fun k=>q06_Joins.f k codes ((pre.length:Int)+1)) (Jb (a::pre) b):=by
  have hlen:codes.length=pre.length+1+(t.length+1):=by rw [hc];simp;try omega
  have hra:rd codes (pre.length:Int)=a:=by rw [hc];exact rd_rev pre pre a _
  have hrb:rd codes ((pre.length:Int)+1)=b:=by
    rw [hc]
    have:=rd_mid (a::pre).reverse b t
    rw [List.length_reverse,List.length_cons] at this
    exact this
  have h4:=j4_ev codes hl ((pre.length:Int)+1) a b pre t hc rfl
  have hl0:=jl0_ev codes hl ((pre.length:Int)+1) a b pre t hc rfl pre (a::b::t) (by rw [hc];simp)
  have e2:wrap64 ((pre.length:Int)+1 - 2)=(pre.length:Int) - 1:=by rw [w64 (by omega) (by omega)];omega
  unfold q06_Joins.f
  rw [w64 (by omega) (by omega),show (pre.length:Int)+1 - 1=(pre.length:Int) by omega,hra,hrb]
  refine Ev.ifp (by omega) (Ev.ifp (by omega) (Ev.bind (Q05.refOf_ev a) (Ev.ifp (by omega) (Ev.ifp (by omega) (Ev.bind (Q05.refOf_ev b) ?_)))))
  have last:Ev (fun k=>q06_Joins.j1 k codes ((pre.length:Int)+1) (gk a) (gk b) false) (sylV (gk a) (gk b) || (pk b && (gk a==5 && near pre)) || (gk b==6 && fl (a::pre) % 2==1)):=by
    refine Ev.succ ?_
    simp only [q06_Joins.j1]
    refine Ev.ifn (by decide) (Ev.bindc (syl_eq _ _) ?_)
    cases hs:sylV (gk a) (gk b) with
    | true=>exact Ev.ifp rfl (Ev.now _)
    | false =>
      refine Ev.ifn (by decide) ?_
      by_cases h5:gk a=5
      · rw [beq_iff_eq.2 h5]
        refine Ev.ifp h5 (Ev.ifp (by omega) (Ev.ifp (by omega) ?_))
        rw [hrb]
        refine Ev.bind (Q05.refPict_ev b) (Ev.succ ?_)
        simp only [q06_Joins.j2]
        cases hp:pk b with
        | true =>
          refine Ev.ifp rfl ?_
          rw [e2]
          exact Ev.val hl0 (by simp)
        | false=>exact Ev.ifn (by decide) (Ev.val h4 (by simp))
      · rw [beq_eq_false_iff_ne.2 h5]
        refine Ev.ifn h5 (Ev.succ ?_)
        simp only [q06_Joins.j2]
        exact Ev.ifn (by decide) (Ev.val h4 (by simp))
  have lastT:Ev (fun k=>q06_Joins.j1 k codes ((pre.length:Int)+1) (gk a) (gk b) true) true:=by
    refine Ev.succ ?_
    simp only [q06_Joins.j1]
    exact Ev.ifp trivial (Ev.now _)
  have hJ:Jb (a::pre) b=(twoV (gk a) (gk b) || (pk b && (gk a==5 && near pre)) || (gk b==6 && fl (a::pre) % 2==1)):=by
    unfold Jb
    simp only
    rw [two_eq,tie_two]
  have j0F:(gk a==1 && gk b==2)=false→Ev (fun k=>q06_Joins.j0 k codes ((pre.length:Int)+1) (gk a) (gk b) false) (Jb (a::pre) b):=fun h12=>by
    refine Ev.succ ?_
    simp only [q06_Joins.j0]
    refine Ev.ifn (by decide) (Ev.bindc (alone_eq _) ?_)
    rw [hJ]
    unfold twoV
    rw [h12]
    cases h1:aln (gk a) with
    | true=>exact Ev.ifp rfl (Ev.val last (by simp))
    | false =>
      refine Ev.ifn (by decide) (Ev.bindc (alone_eq _) ?_)
      cases h2:aln (gk b) with
      | true=>exact Ev.ifp rfl (Ev.val last (by simp))
      | false =>
        refine Ev.ifn (by decide) ?_
        by_cases c4:gk b=4
        · exact Ev.ifp c4 (Ev.val lastT (by rw [c4];simp))
        refine Ev.ifn c4 ?_
        by_cases c5:gk b=5
        · exact Ev.ifp c5 (Ev.val lastT (by rw [c5];simp))
        refine Ev.ifn c5 ?_
        by_cases c8:gk b=8
        · exact Ev.ifp c8 (Ev.val lastT (by rw [c8];simp))
        refine Ev.ifn c8 ?_
        rw [beq_eq_false_iff_ne.2 c4,beq_eq_false_iff_ne.2 c5,beq_eq_false_iff_ne.2 c8]
        cases h7:(gk a==7) with
        | true=>exact Ev.val lastT (by simp)
        | false=>exact Ev.val last (by simp)
  by_cases h1:gk a=1
  · refine Ev.ifp h1 ?_
    cases h2:(gk b==2) with
    | true =>
      refine Ev.succ ?_
      simp only [q06_Joins.j0]
      refine Ev.ifp trivial (Ev.val (Ev.now _) ?_)
      rw [hJ]
      unfold twoV
      rw [beq_iff_eq.2 h1,h2]
      rfl
    | false=>exact j0F (by rw [h2];simp)
  · refine Ev.ifn h1 (j0F (by rw [beq_eq_false_iff_ne.2 h1];rfl))
end
end Go.Proofs.Yteoaegigjlhamaa.PC19.C6
namespace Go.Proofs.Yteoaegigjlhamaa.PC19.C6
open Go.RowKit Go.Proofs.YteoaegigjlhamaaW.PrintWords Go.Proofs.YteoaegigjlhamaaW.PrintLast Go.Proofs.YteoaegigjlhamaaW.PrintMore Go.Proofs.YteoaegigjlhamaaH
set_option linter.unusedVariables false
set_option linter.unusedSimpArgs false
open Q05 (gk pk rng)
open Q04 (colsV)
abbrev Rn:=S36
abbrev Cl:=S40
theorem mx_max (a b:Int):mx a b=max a b:=by unfold mx;split <;> omega
/-! ### how wide -/
def pv:Option Int→Bool
  | none=>false
  | some q=>pk q
def wgo (p:Option Int) (n:Int):List Int→Int
  | []=>n
  | c::r=>if c=65039∧pv p=true then 2 else wgo (some c) (mx n (colsV c)) r
def wid:List Int→Int
  | []=>0
  | c::r=>if aln (gk c)=true then 0 else wgo none 0 (c::r)
def lastOf (p:Option Int):List Int→Option Int
  | []=>p
  | c::r=>lastOf (some c) r
theorem wgo_snoc: ∀ (cs:List Int) (p:Option Int) (n r:Int),n≤2→wgo p n (cs++[r])=if r=65039∧pv (lastOf p cs)=true then 2 else mx (wgo p n cs) (colsV r)
  | [],p,n,r,hn=>rfl
  | c::cs,p,n,r,hn=>by
    have h1:=Q04.colsV_range c
    have h2:=Q04.colsV_range r
    have hm:mx n (colsV c)≤2:=by rw [mx_max];omega
    have ih:=wgo_snoc cs (some c) (mx n (colsV c)) r hm
    rw [List.cons_append]
    unfold wgo lastOf
    by_cases hc:c=65039∧pv p=true
    · rw [if_pos hc,if_pos hc,mx_max]
      split <;> omega
    · rw [if_neg hc,if_neg hc]
      exact ih
theorem lastOf_snoc: ∀ (cs:List Int) (p:Option Int) (r:Int),lastOf p (cs++[r])=some r
  | [],p,r=>rfl
  | c::cs,p,r=>lastOf_snoc cs (some c) r
theorem wgo_range: ∀ (cs:List Int) (p:Option Int) (n:Int),0≤n→n≤2→0≤wgo p n cs∧wgo p n cs≤2
  | [],p,n,h0,h2=>⟨h0,h2⟩
  | c::cs,p,n,h0,h2=>by
    have h1:=Q04.colsV_range c
    unfold wgo
    split
    · omega
    · exact wgo_range cs _ _ (by rw [mx_max];omega) (by rw [mx_max];omega)
theorem wid_cons (c:Int) (r:List Int):wid (c::r)=if aln (gk c)=true then 0 else wgo none 0 (c::r):=rfl
theorem wid_range: ∀ cs:List Int,0≤wid cs∧wid cs≤2
  | []=>⟨Int.le_refl _,by decide⟩
  | c::r=>by
    rw [wid_cons]
    split
    · exact ⟨Int.le_refl _,by decide⟩
    · exact wgo_range _ _ _ (by decide) (by decide)
/-! ### clusters -/
def siz (g:List Rn):Int:=g.foldl (fun s r=>wrap64 (s+r.f1)) 0
def hd (g:List Rn):Rn:=g.headD ⟨0,0,0⟩
def cds (g:List Rn):List Int:=g.map fun r=>r.f2
def mkC (g:List Rn) (n:Nat):Cl:=⟨(hd g).f0,siz g,(n:Int),((n+g.length:Nat):Int),wid (cds g),(hd g).f2⟩
def grps:List Rn→List Rn→List Int→List (List Rn)
  | [],cur,_=>[cur]
  | r::t,cur,pre=>if Jb pre r.f2=true then grps t (cur++[r]) (r.f2::pre) else cur::grps t [r] (r.f2::pre)
def grp:List Rn→List (List Rn)
  | []=>[]
  | r::t=>grps t [r] [r.f2]
def mks:List (List Rn)→Nat→List Cl
  | [],_=>[]
  | g::gs,n=>mkC g n::mks gs (n+g.length)
def cls (l:List Rn):List Cl:=mks (grp l) 0
def okR (r:Rn):Prop:=rng r.f0∧rng r.f1∧rng r.f2
/-! ### what joins, by the last kind -/
set_option maxRecDepth 100000 in
theorem two_23: ∀ m:Nat,m < 14→twoV 2 (m:Int)=false∧twoV 3 (m:Int)=false∧twoV 1 (m:Int)=((m:Int)==2)∧twoV (m:Int) 1=false∧twoV (m:Int) 3=false:=by decide +kernel
theorem fl_z (a:Int) (pre:List Int) (h:gk a≠6):fl (a::pre)=0:=by rw [fl_cons,if_neg h]
theorem jb_low (a b:Int) (pre:List Int) (h:gk a=1∨gk a=2∨gk a=3):Jb (a::pre) b=(gk a==1 && gk b==2):=by
  have h5:(gk a==5)=false:=beq_eq_false_iff_ne.2 (by omega)
  unfold Jb
  simp only
  rw [two_eq,tie_two,fl_z a pre (by omega),h5]
  have ht:twoV (gk a) (gk b)=(gk a==1 && gk b==2):=by
    rcases h with h|h|h
    · rw [h];exact kinds14 (fun y=>twoV 1 y=((1:Int)==1 && y==2)) (fun m hm=>(two_23 m hm).2.2.1) b
    · rw [h];exact kinds14 (fun y=>twoV 2 y=((2:Int)==1 && y==2)) (fun m hm=>(two_23 m hm).1) b
    · rw [h];exact kinds14 (fun y=>twoV 3 y=((3:Int)==1 && y==2)) (fun m hm=>(two_23 m hm).2.1) b
  rw [ht]
  simp
theorem jb_into (a b:Int) (pre:List Int) (h:Jb (a::pre) b=true):gk b≠1∧gk b≠3:=by
  have key:(gk b=1∨gk b=3)→Jb (a::pre) b=false:=fun hb=>by
    have hp:pk b=false:=by
      cases hp:pk b with
      | false=>rfl
      | true=>have:=pk_gk b hp;omega
    unfold Jb
    simp only
    rw [two_eq,hp,beq_eq_false_iff_ne.2 (show gk b≠6 by omega)]
    have ht:twoV (gk a) (gk b)=false:=by
      rcases hb with hb|hb
      · rw [hb];exact kinds14 (fun y=>twoV y 1=false) (fun m hm=>(two_23 m hm).2.2.2.1) a
      · rw [hb];exact kinds14 (fun y=>twoV y 3=false) (fun m hm=>(two_23 m hm).2.2.2.2) a
    rw [ht]
    rfl
  constructor
  · intro e;rw [key (.inl e)] at h;cases h
  · intro e;rw [key (.inr e)] at h;cases h
theorem aln_iff (k:Int):aln k=true ↔ k=1∨k=2∨k=3:=by simp [aln]
structure Grp (cur:List Rn) (a:Int):Prop where
  ne:cur≠[]
  last:lastOf none (cds cur)=some a
  alone:aln (gk (hd cur).f2)=true→gk a=1∨gk a=2∨gk a=3
  cr:gk a=1→aln (gk (hd cur).f2)=true
theorem Grp.one (r:Rn):Grp [r] r.f2:=⟨by simp,rfl,fun h=>(aln_iff _).1 h,fun h=>(aln_iff _).2 (.inl h)⟩
theorem hd_app (cur:List Rn) (t:List Rn) (h:cur≠[]):hd (cur++t)=hd cur:=by
  cases cur with
  | nil=>exact absurd rfl h
  | cons x c=>rfl
theorem cds_app (a b:List Rn):cds (a++b)=cds a++cds b:=by simp [cds]
theorem Grp.more {cur:List Rn} {a:Int} (h:Grp cur a) {pre:List Int} {r:Rn} (hj:Jb (a::pre) r.f2=true):Grp (cur++[r]) r.f2:=by
  have h1:=jb_into a r.f2 pre hj
  refine ⟨by simp,?_,fun ha=>?_,fun e=>absurd e h1.1⟩
  · rw [cds_app];exact lastOf_snoc _ _ _
  · rw [hd_app _ _ h.ne] at ha
    rw [jb_low a r.f2 pre (h.alone ha),Bool.and_eq_true,beq_iff_eq,beq_iff_eq] at hj
    exact .inr (.inl hj.2)
theorem siz_snoc (g:List Rn) (r:Rn):siz (g++[r])=wrap64 (siz g+r.f1):=by simp [siz,List.foldl_append]
theorem wid_more {cur:List Rn} {a:Int} (h:Grp cur a) {pre:List Int} {r:Rn} (hj:Jb (a::pre) r.f2=true) :
    wid (cds (cur++[r]))=if (gk a==1)=true then wid (cds cur) else if (r.f2==65039)=true then (if pk a=true then 2 else max (wid (cds cur)) (colsV r.f2)) else max (wid (cds cur)) (colsV r.f2):=by
  obtain ⟨x,c,rfl⟩: ∃ x c,cur=x::c:=by
    cases cur with
    | nil=>exact absurd rfl h.ne
    | cons x c=>exact ⟨x,c,rfl⟩
  have e1:cds (x::c++[r])=x.f2::(cds c++[r.f2]):=by simp [cds]
  have e2:cds (x::c)=x.f2::cds c:=rfl
  have hh:(hd (x::c)).f2=x.f2:=rfl
  have hal:=h.alone
  rw [hh] at hal
  rw [e1,e2,wid_cons,wid_cons]
  by_cases ha:aln (gk x.f2)=true
  · have h3:=hal ha
    rw [jb_low a r.f2 pre h3,Bool.and_eq_true] at hj
    rw [if_pos ha,if_pos ha,if_pos hj.1]
  · have h1:gk a≠1:=fun e=>ha (by have:=h.cr e;rw [hh] at this;exact this)
    have hl:=h.last
    rw [e2] at hl
    rw [if_neg ha,if_neg ha,if_neg (fun e=>h1 (beq_iff_eq.1 e)),← List.cons_append,wgo_snoc _ _ _ _ (by omega),hl,mx_max]
    by_cases h2:r.f2=65039
    · rw [if_pos (beq_iff_eq.2 h2)]
      cases hp:pk a with
      | true=>rw [if_pos ⟨h2,hp⟩,if_pos rfl]
      | false=>rw [if_neg (fun e=>by have h:=e.2;rw [show pv (some a)=pk a from rfl,hp] at h;cases h),if_neg (by decide)]
    · rw [if_neg (fun e=>h2 e.1),if_neg (fun e=>h2 (beq_iff_eq.1 e))]
theorem mkC_more {cur:List Rn} {a:Int} (h:Grp cur a) {pre:List Int} {r:Rn} (hj:Jb (a::pre) r.f2=true) (n:Nat) (hn:n+cur.length < 1000000) :
    cluster_Of.grow (mkC cur n) r.f1 r.f2 (gk a) (pk a) (colsV r.f2) (((n+cur.length:Nat):Int)+1)=mkC (cur++[r]) n:=by
  unfold cluster_Of.grow mkC
  rw [hd_app _ _ h.ne,siz_snoc,wid_more h hj]
  simp only [List.length_append,List.length_cons,List.length_nil]
  congr 1
theorem rng_w {x:Int} (h:rng x):wrap64 x=x:=w64 h.1 h.2
theorem mkC_one (r:Rn) (h:rng r.f1) (i:Nat) (hi:i < 1000000):(⟨r.f0,r.f1,(i:Int),wrap64 ((i:Int)+1),if gk r.f2≥1 then (if gk r.f2≤3 then 0 else colsV r.f2) else colsV r.f2,r.f2⟩:Cl)=mkC [r] i:=by
  have h1:=gk_range r.f2
  have h2:=Q04.colsV_range r.f2
  have e1:siz [r]=r.f1:=by
    show wrap64 (0+r.f1)=r.f1
    rw [Int.zero_add]
    exact rng_w h
  have e2:wid (cds [r])=if gk r.f2≥1 then (if gk r.f2≤3 then 0 else colsV r.f2) else colsV r.f2:=by
    have e3:wgo none 0 [r.f2]=mx 0 (colsV r.f2):=by
      unfold wgo
      rw [if_neg (fun e=>by cases e.2)]
      rfl
    show wid [r.f2]=_
    rw [wid_cons,e3,mx_max]
    by_cases ha:gk r.f2=1∨gk r.f2=2∨gk r.f2=3
    · rw [if_pos ((aln_iff _).2 ha),if_pos (by omega),if_pos (by omega)]
    · rw [if_neg (fun e=>ha ((aln_iff _).1 e))]
      split
      · rw [if_neg (by omega)];omega
      · omega
  unfold mkC
  rw [e1,e2,w64 (by omega) (by omega)]
  rfl
theorem see_eq (r:Rn) (h:rng r.f2):cluster_see.f r.f0 r.f1 r.f2=some (r.f0,r.f1,r.f2,gk r.f2,colsV r.f2,pk r.f2):=by
  unfold cluster_see.f
  rw [Q05.of_eq _ h,Q05.pict_eq,Q04.of_eq]
  rfl
theorem then_any (z0 z1 z2 z3 z4:Int) (z5:Bool) (y0 y1 y2 y4:Int) (b:Int) (pre:List Int) (hl:pre.length < 1000000):cluster_seen_then.f z0 z1 z2 z3 z4 z5 (tie pre) (fl pre:Int) y0 y1 y2 (gk b) y4 (pk b)=some (y0,y1,y2,gk b,y4,pk b,tie (b::pre),(fl (b::pre):Int)) :=
  then_eq z0 z1 z2 z4 y0 y1 y2 y4 b b pre hl 0
theorem set_last (out:List Cl) (x y:Cl):(out++[x]).set ((out++[x]).length - 1) y=out++[y]:=by
  rw [List.length_append,List.length_cons,List.length_nil,Nat.add_sub_cancel,List.set_append_right _ _ (Nat.le_refl _),Nat.sub_self]
  rfl
theorem get_last (out:List Cl) (x:Cl):(out++[x]).getD ((out++[x]).length - 1) z40=x:=by
  rw [List.length_append,List.length_cons,List.length_nil,Nat.add_sub_cancel,List.getD_eq_getElem?_getD,List.getElem?_append_right (Nat.le_refl _),Nat.sub_self]
  rfl
theorem lp_eq: ∀ (t:List Rn) (cur:List Rn) (a:Int) (pre:List Int) (out:List Cl) (n:Nat) (z0 z1 z2 z4:Int),Grp cur a→(∀ r ∈ t,okR r)→n+cur.length+t.length < 1000000→out.length≤n→pre.length < n+cur.length →
    cluster_Of.lp t (out++[mkC cur n]) z0 z1 z2 (gk a) z4 (pk a) (tie (a::pre)) (fl (a::pre):Int) (n+cur.length)=some (out++mks (grps t cur (a::pre)) n)
  | [],cur,a,pre,out,n,z0,z1,z2,z4,hG,ht,hl,ho,hp=>by
    unfold cluster_Of.lp grps mks mks
    rfl
  | r::t,cur,a,pre,out,n,z0,z1,z2,z4,hG,ht,hl,ho,hp=>by
    obtain ⟨h0,h1,h2⟩:=ht r (by simp)
    have ht': ∀ r ∈ t,okR r:=fun x hx=>ht x (by simp [hx])
    have hcl:0 < cur.length:=List.length_pos_iff.2 hG.ne
    simp only [List.length_cons] at hl
    unfold cluster_Of.lp
    rw [see_eq r h2]
    simp only [Option.bind_some]
    rw [then_any _ _ _ _ _ _ _ _ _ _ _ (a::pre) (by simp only [List.length_cons];omega),joins_eq]
    simp only [Option.bind_some]
    rw [if_neg (by omega)]
    unfold grps
    by_cases hj:Jb (a::pre) r.f2=true
    · rw [if_pos hj,if_pos hj,if_pos (by simp),set_last,get_last,mkC_more hG hj n (by omega)]
      have:=lp_eq t (cur++[r]) r.f2 (a::pre) out n r.f0 r.f1 r.f2 (colsV r.f2) (hG.more hj) ht' (by simp;omega) ho (by simp;omega)
      rw [List.length_append,List.length_cons,List.length_nil,← Nat.add_assoc,Nat.zero_add] at this
      exact this
    · rw [if_neg hj,if_neg hj,if_pos (by simp;omega)]
      unfold cluster_first.f
      simp only [Option.bind_some]
      rw [mkC_one r h1 _ (by omega)]
      have:=lp_eq t [r] r.f2 (a::pre) (out++[mkC cur n]) (n+cur.length) r.f0 r.f1 r.f2 (colsV r.f2) (Grp.one r) ht' (by simp;omega) (by simp;omega) (by simp;omega)
      rw [show n+cur.length+[r].length=n+cur.length+1 from rfl] at this
      rw [this]
      show _=some (out++mkC cur n::mks _ (n+cur.length))
      simp
theorem of_eq (l:List Rn) (h: ∀ r ∈ l,okR r) (hl:l.length < 1000000):cluster_Of.f l=some (cls l):=by
  cases l with
  | nil=>rfl
  | cons r t =>
    obtain ⟨h0,h1,h2⟩:=h r (by simp)
    unfold cluster_Of.f cluster_Of.lp
    rw [see_eq r h2]
    simp only [Option.bind_some]
    have e:=then_any 0 0 0 0 0 false r.f0 r.f1 r.f2 (colsV r.f2) r.f2 [] (by simp)
    have e2:tie []=0:=rfl
    have e3:((fl []:Nat):Int)=0:=rfl
    rw [e2,e3] at e
    rw [e]
    simp only [Option.bind_some]
    rw [if_pos trivial,if_pos (by simp)]
    unfold cluster_first.f
    simp only [Option.bind_some]
    rw [mkC_one r h1 0 (by omega)]
    have:=lp_eq t [r] r.f2 [] [] 0 r.f0 r.f1 r.f2 (colsV r.f2) (Grp.one r) (fun x hx=>h x (by simp [hx])) (by simp at hl ⊢;omega) (by simp) (by simp)
    exact this
theorem mks_len: ∀ (gs:List (List Rn)) (n:Nat),(mks gs n).length=gs.length
  | [],n=>rfl
  | g::gs,n=>by
    show (mks gs _).length+1=_
    rw [mks_len gs,List.length_cons]
theorem grps_len: ∀ (t cur:List Rn) (pre:List Int),(grps t cur pre).length≤t.length+1
  | [],cur,pre=>Nat.le_refl _
  | r::t,cur,pre=>by
    have h1:=grps_len t (cur++[r]) (r.f2::pre)
    have h2:=grps_len t [r] (r.f2::pre)
    unfold grps
    split
    · simp only [List.length_cons];omega
    · simp only [List.length_cons];omega
theorem cls_len (l:List Rn):(cls l).length≤l.length:=by
  unfold cls
  rw [mks_len]
  cases l with
  | nil=>exact Nat.le_refl _
  | cons r t=>exact grps_len t [r] [r.f2]
end Go.Proofs.Yteoaegigjlhamaa.PC19.C6
namespace Go.Proofs.Yteoaegigjlhamaa.PC19.C6
open Go.RowKit Go.Proofs.YteoaegigjlhamaaW.PrintWords Go.Proofs.YteoaegigjlhamaaW.PrintLast Go.Proofs.YteoaegigjlhamaaW.PrintMore Go.Proofs.YteoaegigjlhamaaH
set_option linter.unusedVariables false
set_option linter.unusedSimpArgs false
open Q05 (gk pk rng)
open Q04 (colsV)
theorem wide_l0 (codes:List Int) (hl:codes.length < 1000000): ∀ (r:List Int) (pre:List Int) (n:Int),codes=pre++r→Ev (fun k=>q06_Wide.l0 k codes n (pre.length:Int)) (wgo (lastOf none pre) n r)
  | [],pre,n,h=>by
    refine Ev.succ ?_
    simp only [q06_Wide.l0]
    exact Ev.ifn (by rw [h];simp) (Ev.now _)
  | c::r,pre,n,h=>by
    have hlen:codes.length=pre.length+(r.length+1):=by rw [h];simp;try omega
    have hrd:rd codes (pre.length:Int)=c:=by rw [h];exact rd_mid pre c r
    have e1:wrap64 ((pre.length:Int)+1)=((pre++[c]).length:Int):=by rw [w64 (by omega) (by omega)];simp
    have ih:=wide_l0 codes hl r (pre++[c]) (mx n (colsV c)) (by rw [h];simp)
    rw [lastOf_snoc] at ih
    refine Ev.succ ?_
    simp only [q06_Wide.l0]
    rw [hrd,e1]
    refine Ev.ifp (by omega) (Ev.ifp (by omega) (Ev.bind (Q04.refOf_ev c) ?_))
    unfold wgo
    rcases List.eq_nil_or_concat pre with rfl|⟨p,q,hpq⟩
    · rw [if_neg (fun e=>by cases e.2)]
      exact Ev.ifn (by simp) ih
    · rw [List.concat_eq_append] at hpq
      subst hpq
      have hq:rd codes ((p.length:Nat):Int)=q:=by rw [h,List.append_assoc];exact rd_mid p q (c::r)
      have e2:wrap64 (((p++[q]).length:Int) - 1)=(p.length:Int):=by rw [w64 (by omega) (by omega)];simp
      rw [lastOf_snoc,show pv (some q)=pk q from rfl,e2,hq]
      refine Ev.ifp (by simp;try omega) ?_
      by_cases h1:c=65039
      · refine Ev.ifp h1 (Ev.ifp (by omega) (Ev.ifp (by simp at hlen;omega) (Ev.bind (Q05.refPict_ev q) ?_)))
        by_cases h2:pk q=true
        · rw [if_pos ⟨h1,h2⟩]
          exact Ev.ifp h2 (Ev.now _)
        · rw [if_neg (fun e=>h2 e.2)]
          exact Ev.ifn h2 ih
      · rw [if_neg (fun e=>h1 e.1)]
        exact Ev.ifn h1 ih
theorem wide_ev (codes:List Int) (hne:codes≠[]) (hl:codes.length < 1000000):Ev (fun k=>q06_Wide.f k codes) (wid codes):=by
  obtain ⟨c,r,rfl⟩: ∃ c r,codes=c::r:=by
    cases codes with
    | nil=>exact absurd rfl hne
    | cons c r=>exact ⟨c,r,rfl⟩
  unfold q06_Wide.f
  rw [wid_cons]
  refine Ev.ifp (by simp) ?_
  rw [show rd (c::r) 0=c from rfl]
  refine Ev.bind (Q05.refOf_ev c) (Ev.bindc (alone_eq _) ?_)
  cases ha:aln (gk c) with
  | true =>
    rw [if_pos rfl]
    exact Ev.ifp rfl (Ev.now _)
  | false =>
    rw [if_neg (by decide)]
    exact Ev.ifn (by decide) (wide_l0 (c::r) hl (c::r) [] 0 rfl)
theorem rd_at37 (pre:List Rn) (x:Rn) (r:List Rn):rd_T36 (pre++x::r) (pre.length:Int)=x:=by
  unfold rd_T36
  rw [Int.toNat_natCast,List.getD_eq_getElem?_getD,List.getElem?_append_right (Nat.le_refl _),Nat.sub_self]
  rfl
section
variable (l : List Rn) (hl : l.length < 1000000)
include hl
theorem l2_ev (out:List Cl) (ho:out.length < 1000000) (res:List Cl) (x7:Nat) (f0 f2 f3 f4 f5:Int): ∀ (r pre u:List Rn) (s:Int),l=pre++r++u→x7=pre.length+r.length →
    (∀ s',s'=r.foldl (fun s x=>wrap64 (s+x.f1)) s→Ev (fun k=>q06_Of.l1 k l (cds l) (out++[(⟨f0,s',f2,f3,f4,f5⟩:Cl)]) (x7:Int) (wrap64 ((x7:Int)+1))) res) →
    Ev (fun k=>q06_Of.l2 k l (cds l) out (x7:Int) (pre.length:Int) f0 s f2 f3 f4 f5) res
  | [],pre,u,s,h,hx,H=>by
    refine Ev.succ ?_
    simp only [q06_Of.l2]
    refine Ev.ifn (by simp at hx;omega) (Ev.ifp (by omega) ?_)
    exact H s rfl
  | x::r,pre,u,s,h,hx,H=>by
    have hlen:l.length=pre.length+(r.length+1)+u.length:=by rw [h];simp;try omega
    have hrd:rd_T36 l (pre.length:Int)=x:=by rw [h,List.append_assoc];exact rd_at37 pre x (r++u)
    have e1:wrap64 ((pre.length:Int)+1)=((pre++[x]).length:Int):=by rw [w64 (by omega) (by omega)];simp
    simp only [List.length_cons] at hx
    refine Ev.succ ?_
    simp only [q06_Of.l2]
    rw [hrd,e1]
    refine Ev.ifp (by omega) (Ev.ifp (by omega) (Ev.ifp (by omega) ?_))
    exact l2_ev out ho res x7 f0 f2 f3 f4 f5 r (pre++[x]) u _ (by rw [h];simp) (by simp;try omega) (fun s' hs'=>H s' hs')
theorem of_l1: ∀ (t cur done:List Rn) (a:Int) (pre:List Int) (out:List Cl),l=done++cur++t→Grp cur a→(cds (done++cur)).reverse=a::pre→out.length≤done.length →
    Ev (fun k=>q06_Of.l1 k l (cds l) out (done.length:Int) ((done.length+cur.length:Nat):Int)) (out++mks (grps t cur (a::pre)) done.length):=by
  have close: ∀ (t cur done:List Rn) (a:Int) (out:List Cl) (res:List Cl),l=done++cur++t→Grp cur a→out.length≤done.length →
      (Ev (fun k=>q06_Of.l1 k l (cds l) (out++[mkC cur done.length]) ((done.length+cur.length:Nat):Int) ((done.length+cur.length+1:Nat):Int)) res) →
      Ev (fun k=>q06_Of.j2 k l (cds l) out (done.length:Int) ((done.length+cur.length:Nat):Int) false) res:=fun t cur done a out res h hG ho H=>by
    have hlen:l.length=done.length+cur.length+t.length:=by rw [h];simp;try omega
    have hcl:0 < cur.length:=List.length_pos_iff.2 hG.ne
    have hcd:(cds l).length=l.length:=by simp [cds]
    obtain ⟨x,c,rfl⟩: ∃ x c,cur=x::c:=by
      cases cur with
      | nil=>exact absurd rfl hG.ne
      | cons x c=>exact ⟨x,c,rfl⟩
    have hr1:rd_T36 l (done.length:Int)=x:=by rw [h,List.append_assoc];exact rd_at37 done x (c++t)
    have hr2:rd (cds l) (done.length:Int)=x.f2:=by
      have:=rd_mid (cds done) x.f2 (cds (c++t))
      rw [show (cds done).length=done.length by simp [cds]] at this
      rw [h,List.append_assoc,cds_app]
      exact this
    have hcut:((cds l).take (((done.length+(x::c).length:Nat):Int)).toNat).drop ((done.length:Int)).toNat=cds (x::c):=by
      rw [Int.toNat_natCast,Int.toNat_natCast,h,cds_app,List.take_left' (by simp [cds]),cds_app,List.drop_left' (by simp [cds])]
    refine Ev.succ ?_
    simp only [q06_Of.j2]
    rw [hcut,hr1,hr2]
    refine Ev.ifn (by decide) (Ev.ifp (by omega) (Ev.ifp (by omega) (Ev.ifp (by omega) (Ev.ifp (by omega) (Ev.ifp (by omega) (Ev.bind (wide_ev _ (by simp [cds]) (by simp [cds] at hlen ⊢;omega)) ?_))))))
    refine l2_ev l hl out (by omega) res (done.length+(x::c).length) x.f0 (done.length:Int) ((done.length+(x::c).length:Nat):Int) (wid (cds (x::c))) x.f2 (x::c) done t 0 h rfl (fun s' hs'=>?_)
    have:=H
    rw [w64 (by omega) (by omega),show ((done.length+(x::c).length:Nat):Int)+1=((done.length+(x::c).length+1:Nat):Int) by omega,hs']
    exact this
  intro t
  induction t with
  | nil =>
    intro cur done a pre out h hG hp ho
    have hlen:l.length=done.length+cur.length:=by rw [h];simp;try omega
    refine Ev.succ ?_
    simp only [q06_Of.l1]
    refine Ev.ifp (by omega) (Ev.ifn (by omega) ?_)
    refine close [] cur done a out _ h hG ho ?_
    refine Ev.succ ?_
    simp only [q06_Of.l1]
    exact Ev.ifn (by omega) (Ev.now _)
  | cons r t ih =>
    intro cur done a pre out h hG hp ho
    have hlen:l.length=done.length+cur.length+(t.length+1):=by rw [h];simp;try omega
    have hcd:(cds l).length=l.length:=by simp [cds]
    have hpl:pre.length+1=done.length+cur.length:=by
      have:=congrArg List.length hp
      simp [cds] at this
      omega
    have hcl:0 < cur.length:=List.length_pos_iff.2 hG.ne
    have hJ:=joins_ev (cds l) (by omega) a r.f2 pre (cds t) (by rw [h,cds_app,← hp,List.reverse_reverse];rfl)
    refine Ev.succ ?_
    simp only [q06_Of.l1]
    refine Ev.ifp (by omega) (Ev.ifp (by omega) ?_)
    rw [show ((done.length+cur.length:Nat):Int)=(pre.length:Int)+1 by omega]
    refine Ev.bind hJ ?_
    unfold grps
    rw [show (pre.length:Int)+1=((done.length+cur.length:Nat):Int) by omega]
    by_cases hj:Jb (a::pre) r.f2=true
    · rw [if_pos hj,hj]
      refine Ev.succ ?_
      simp only [q06_Of.j2]
      refine Ev.ifp trivial ?_
      have:=ih (cur++[r]) done r.f2 (a::pre) out (by rw [h];simp) (hG.more hj) (by rw [← hp];simp [cds]) ho
      rw [w64 (by omega) (by omega),show ((done.length+cur.length:Nat):Int)+1=((done.length+(cur++[r]).length:Nat):Int) by simp;omega]
      exact this
    · have hjf:Jb (a::pre) r.f2=false:=by simpa using hj
      rw [if_neg hj,hjf]
      refine close (r::t) cur done a out _ h hG ho ?_
      have:=ih [r] (done++cur) r.f2 (a::pre) (out++[mkC cur done.length]) (by rw [h];simp) (Grp.one r) (by rw [← hp];simp [cds]) (by simp;try omega)
      rw [List.length_append] at this
      refine Ev.val this ?_
      show _=out++mkC cur done.length::mks _ (done.length+cur.length)
      simp
theorem refOf_ev:Ev (fun k=>q06_Of.f k l) (cls l):=by
  have l0: ∀ (r pre:List Rn),l=pre++r→Ev (fun k=>q06_Of.l0 k l (cds pre) (pre.length:Int)) (cls l):=by
    intro r
    induction r with
    | nil =>
      intro pre h
      have hpl:pre=l:=by rw [h];simp
      refine Ev.succ ?_
      simp only [q06_Of.l0]
      refine Ev.ifn (by rw [hpl];omega) ?_
      rw [hpl]
      cases hll:l with
      | nil =>
        refine Ev.succ ?_
        simp only [q06_Of.l1]
        exact Ev.ifn (by decide) (Ev.now _)
      | cons x t =>
        have:=of_l1 l hl t [x] [] x.f2 [] [] (by rw [hll];rfl) (Grp.one x) rfl (by simp)
        rw [hll] at this
        exact this
    | cons x r ih =>
      intro pre h
      have hlen:l.length=pre.length+(r.length+1):=by rw [h];simp;try omega
      have hrd:rd_T36 l (pre.length:Int)=x:=by rw [h];exact rd_at37 pre x r
      have e1:wrap64 ((pre.length:Int)+1)=((pre++[x]).length:Int):=by rw [w64 (by omega) (by omega)];simp
      refine Ev.succ ?_
      simp only [q06_Of.l0]
      rw [hrd,e1]
      refine Ev.ifp (by omega) (Ev.ifp (by omega) (Ev.ifp (by simp [cds];omega) ?_))
      rw [show cds pre++[x.f2]=cds (pre++[x]) by simp [cds]]
      exact ih (pre++[x]) (by rw [h];simp)
  unfold q06_Of.f
  exact l0 l [] rfl
end
theorem sameR_l0 (xs:List Rn) (hl:xs.length < 1000000000): ∀ (r pre:List Rn),xs=pre++r→Ev (fun k=>q01_Same.l0 k xs xs (pre.length:Int)) true
  | [],pre,h=>by
    refine Ev.succ ?_
    simp only [q01_Same.l0]
    exact Ev.ifn (by rw [h];simp) (Ev.now _)
  | x::r,pre,h=>by
    have hlen:xs.length=pre.length+(r.length+1):=by rw [h];simp;try omega
    have e:wrap64 ((pre.length:Int)+1)=((pre++[x]).length:Int):=by rw [w64 (by omega) (by omega)];simp
    refine Ev.succ ?_
    simp only [q01_Same.l0]
    rw [e]
    exact Ev.ifp (by omega) (Ev.ifp (by omega) (Ev.ifp (by omega) (Ev.ifn (by simp) (sameR_l0 xs hl r (pre++[x]) (by rw [h];simp)))))
theorem sameR_ev (xs:List Rn) (hl:xs.length < 1000000000):Ev (fun k=>q01_Same.f k xs xs) true:=by
  unfold q01_Same.f
  exact Ev.ifp rfl (sameR_l0 xs hl xs [] rfl)
end Go.Proofs.Yteoaegigjlhamaa.PC19.C6
