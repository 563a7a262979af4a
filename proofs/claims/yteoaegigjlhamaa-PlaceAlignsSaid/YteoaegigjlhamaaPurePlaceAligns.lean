/- PlaceAligns: however a line is aligned, its text is one; where the pads stand (the pure statement over the printed Lean functions). Conditions: those of the statement. -/
import Derived.Test.YteoaegigjlhamaaHD19
import Derived.Test.YteoaegigjlhamaaHZ19
import Derived.Test.YteoaegigjlhamaaPC19x20
namespace Go.Proofs.Yteoaegigjlhamaa.Pure
open Go.RowKit Go.Proofs.Yteoaegigjlhamaa.PC19 Go.Proofs.YteoaegigjlhamaaW.PrintWords Go.Proofs.YteoaegigjlhamaaW.PrintLast Go.Proofs.YteoaegigjlhamaaW.PrintMore Go.Proofs.YteoaegigjlhamaaH
set_option linter.unusedVariables false
set_option linter.unusedSimpArgs false
theorem bare_l1 (L:Nat) (t:List Sl) (ht: ∀ x ∈ t,tk x): ∀ (q:Nat) (r:List Sl),(L+t.length+q+r.length < 100000) →
    Ev (fun k=>parquetrylaw19_bare.l1 k (List.replicate L pad++(t++(List.replicate q pad++r))) (L:Int) ((L+t.length+q:Nat):Int)) (t,(L:Int))
  | 0,r,hl=>by
    have hlen:(List.replicate L pad++(t++(List.replicate 0 pad++r))).length=L+(t.length+(0+r.length)):=by simp
    have hcut:((List.replicate L pad++(t++(List.replicate 0 pad++r))).take (((L+t.length+0:Nat):Int)).toNat).drop ((L:Int)).toNat=t:=by
      rw [Int.toNat_natCast,Int.toNat_natCast,← List.append_assoc,Nat.add_zero,List.take_append_of_le_length (by simp),List.take_of_length_le (by simp),List.drop_append_of_le_length (by simp)]
      rw [List.drop_eq_nil_of_le (by simp),List.nil_append]
    refine Ev.succ ?_
    simp only [parquetrylaw19_bare.l1]
    rw [hcut]
    rcases List.eq_nil_or_concat t with h|⟨y,z,h⟩
    · subst h
      refine Ev.ifn (by simp) (Ev.ifp (by omega) (Ev.ifp (by omega) (Ev.ifp (by rw [hlen];simp only [List.length_nil];omega) (Ev.now _))))
    · have hz:tk z:=ht z (by rw [h];simp)
      have hl2:t.length=y.length+1:=by rw [h];simp
      rw [w64 (by omega) (by omega)]
      have hrd:rd_T42 (List.replicate L pad++(t++(List.replicate 0 pad++r))) (((L+t.length+0:Nat):Int) - 1)=z:=by
        have e:List.replicate L pad++(t++(List.replicate 0 pad++r))=(List.replicate L pad++y)++z::r:=by rw [h];simp
        rw [e]
        exact slA_mid _ _ _ _ (by rw [List.length_append,List.length_replicate];omega)
      rw [hrd]
      unfold tk at hz
      refine Ev.ifp (by omega) (Ev.ifp (by omega) (Ev.ifp (by rw [hlen];omega) (Ev.ifn (by omega) (Ev.ifp (by omega) (Ev.ifp (by omega) (Ev.ifp (by rw [hlen];omega) (Ev.now _)))))))
  | q+1,r,hl=>by
    have hlen:(List.replicate L pad++(t++(List.replicate (q+1) pad++r))).length=L+(t.length+(q+1+r.length)):=by simp
    refine Ev.succ ?_
    simp only [parquetrylaw19_bare.l1]
    rw [w64 (by omega) (by omega)]
    have e:List.replicate L pad++(t++(List.replicate (q+1) pad++r))=(List.replicate L pad++(t++List.replicate q pad))++pad::r:=by
      rw [List.replicate_succ',List.append_assoc,List.append_assoc,List.append_assoc]
      simp
    have hrd:rd_T42 (List.replicate L pad++(t++(List.replicate (q+1) pad++r))) (((L+t.length+(q+1):Nat):Int) - 1)=pad:=by
      rw [e]
      exact slA_mid _ _ _ _ (by simp only [List.length_append,List.length_replicate];omega)
    rw [hrd]
    refine Ev.ifp (by omega) (Ev.ifp (by omega) (Ev.ifp (by rw [hlen];omega) (Ev.ifp rfl ?_)))
    have ih:=bare_l1 L t ht q (pad::r) (by simp only [List.length_cons];omega)
    rw [show ((L+t.length+(q+1):Nat):Int) - 1=((L+t.length+q:Nat):Int) by omega]
    rw [show List.replicate L pad++(t++(List.replicate q pad++pad::r))=List.replicate L pad++(t++(List.replicate (q+1) pad++r)) by rw [e];simp] at ih
    exact ih
theorem bare_ev (L q:Nat) (t:List Sl) (ht: ∀ x ∈ t,tk x) (hl:L+t.length+q < 100000) (hne:t=[]→q=0):Ev (fun k=>parquetrylaw19_bare.f k (List.replicate L pad++(t++List.replicate q pad))) (t,(L:Int)):=by
  unfold parquetrylaw19_bare.f
  have hend:=bare_l1 L t ht q [] (by simp only [List.length_nil];omega)
  rw [List.append_nil] at hend
  have hlen:(List.replicate L pad++(t++List.replicate q pad)).length=L+t.length+q:=by simp;omega
  have j1:Ev (fun k=>parquetrylaw19_bare.j1 k (List.replicate L pad++(t++List.replicate q pad)) (L:Int)) (t,(L:Int)):=by
    refine Ev.succ ?_
    simp only [parquetrylaw19_bare.j1]
    rw [hlen]
    exact hend
  have l0: ∀ (n i:Nat),i+n=L→Ev (fun k=>parquetrylaw19_bare.l0 k (List.replicate L pad++(t++List.replicate q pad)) (i:Int)) (t,(L:Int)):=by
    intro n
    induction n with
    | zero =>
      intro i hi
      obtain rfl:i=L:=by omega
      refine Ev.succ ?_
      simp only [parquetrylaw19_bare.l0]
      cases t with
      | nil =>
        have:=hne rfl
        exact Ev.ifn (by rw [hlen];simp only [List.length_nil];omega) j1
      | cons z y =>
        have hz:tk z:=ht z (by simp)
        have hrd:rd_T42 (List.replicate i pad++(z::y++List.replicate q pad)) (i:Int)=z:=slA_mid _ _ _ _ (by simp)
        rw [hrd]
        unfold tk at hz
        exact Ev.ifp (by rw [hlen];simp only [List.length_cons];omega) (Ev.ifp (by omega) (Ev.ifn (by omega) j1))
    | succ n ih =>
      intro i hi
      refine Ev.succ ?_
      simp only [parquetrylaw19_bare.l0]
      have e:List.replicate L pad++(t++List.replicate q pad)=List.replicate i pad++pad::(List.replicate n pad++(t++List.replicate q pad)):=by
        rw [show L=i+(n+1) by omega,← List.replicate_append_replicate,List.replicate_succ]
        simp
      have hrd:rd_T42 (List.replicate L pad++(t++List.replicate q pad)) (i:Int)=pad:=by
        rw [e]
        exact slA_mid _ _ _ _ (by simp)
      rw [hrd,w64 (by omega) (by omega),show (i:Int)+1=((i+1:Nat):Int) by omega]
      exact Ev.ifp (by rw [hlen];omega) (Ev.ifp (by omega) (Ev.ifp rfl (ih (i+1) (by omega))))
  exact l0 L 0 (by omega)
theorem bare_laid (t:List Sl) (ht: ∀ x ∈ t,tk x) (w al:Int) (h0:1≤w) (h1:w≤1024) :
    Ev (fun k=>parquetrylaw19_bare.f k (laid t w al)) (t.take w.toNat,if t.take w.toNat=[] then w else lft al (w - ((t.take w.toNat).length:Int))):=by
  have hl:(t.take w.toNat).length=min t.length w.toNat:=by rw [List.length_take,Nat.min_comm]
  have hll:=laid_len t w al h0
  unfold laid at hll ⊢
  rw [← hl] at hll ⊢
  have ht': ∀ x ∈ t.take w.toNat,tk x:=fun x hx=>ht x (List.mem_of_mem_take hx)
  generalize t.take w.toNat=T at *
  generalize hF:lft al (w - (T.length:Int))=F at *
  simp only [List.length_append,List.length_replicate] at hll
  by_cases hT:T=[]
  · subst hT
    rw [if_pos rfl]
    simp only [List.length_nil] at hll ⊢
    have:=bare_ev w.toNat 0 [] (by simp) (by simp only [List.length_nil];omega) (fun _=>rfl)
    rw [show List.replicate F.toNat pad++([]++List.replicate (w - ((0:Nat):Int) - F).toNat pad)=List.replicate w.toNat pad++([]++List.replicate 0 pad) by
      rw [List.nil_append,List.nil_append,List.replicate_zero,List.append_nil,List.replicate_append_replicate]
      congr 1
      omega]
    exact Ev.val this (by rw [Int.toNat_of_nonneg (by omega)])
  · rw [if_neg hT]
    have hF0:0≤F:=by
      rw [← hF]
      exact (lft_in _ _ (by omega)).1
    have:=bare_ev F.toNat (w - (T.length:Int) - F).toNat T ht' (by omega) (fun h=>absurd h hT)
    exact Ev.val this (by rw [Int.toNat_of_nonneg hF0])
theorem aligns_l0 (w:Int) (X:List Sl) (h0:1≤w) (h1:w≤1024) (p q r:Int) (hX:(X.length:Int)≤w) (hp:X≠[]→p=0) (hq:X≠[]→q=w - (X.length:Int)) (hr:X≠[]→r=(w - (X.length:Int)) / 2): ∀ (n i:Nat),i+n=X.length →
    Ev (fun k=>parquetrylaw19_PlaceAligns.l0 k w X p X q X r (X.length:Int) (i:Int)) true
  | 0,i,hi=>by
    refine Ev.succ ?_
    simp only [parquetrylaw19_PlaceAligns.l0]
    refine Ev.ifn (by omega) ?_
    by_cases hX0:X=[]
    · refine Ev.ifp (by rw [hX0];rfl) (Ev.bind awake_ev (Ev.now _))
    · have hpos:=List.length_pos_iff.2 hX0
      rw [hp hX0,hq hX0,hr hX0,w64 (x:=w - (X.length:Int)) (by omega) (by omega),Int.tdiv_eq_ediv_of_nonneg (by omega),w64 (by omega) (by omega)]
      exact Ev.ifn (by omega) (Ev.ifp rfl (Ev.ifp rfl (Ev.ifp rfl (Ev.bind awake_ev (Ev.now _)))))
  | n+1,i,hi=>by
    have ih:=aligns_l0 w X h0 h1 p q r hX hp hq hr n (i+1) (by omega)
    rw [show ((i+1:Nat):Int)=(i:Int)+1 by omega] at ih
    refine Ev.succ ?_
    simp only [parquetrylaw19_PlaceAligns.l0]
    rw [w64 (x:=(i:Int)+1) (by omega) (by omega)]
    exact Ev.ifp (by omega) (Ev.ifp (by omega) (Ev.ifp (by omega) (Ev.ifp (by omega) (Ev.ifn (same_ne _) (Ev.ifp (by omega) (Ev.ifn (same_ne _) ih))))))
theorem PlaceAligns:parquetrylaw19_PlaceAligns.Pure:=by
  intro l0 l1 fr tt sh hd dt para w hm0 hs0 hw0 hm1 hs1 hw1 q1 q2 q3 q4 q5 q6 q7
  refine Ev.ex ?_
  unfold parquetrylaw19_PlaceAligns.f
  by_cases h:(l0.length:Int) > 200
  · exact Ev.ifp h (Ev.bind awake_ev (Ev.now _))
  refine Ev.ifn h ?_
  obtain ⟨cs,hcl,hC⟩:=of_ex l0 (fun r hr=>by
    obtain ⟨a,b,c⟩:=hw0 r hr
    exact ⟨wf_i64 a,wf_i64 b,wf_i64 c⟩) (by omega)
  have s2:=slots_ev l0 l1 fr tt sh hd dt para w 2 cs hcl hC (by omega)
  have s3:=slots_ev l0 l1 fr tt sh hd dt para w 3 cs hcl hC (by omega)
  have s4:=slots_ev l0 l1 fr tt sh hd dt para w 4 cs hcl hC (by omega)
  have htk:=txt_tk l0 l1 cs fr tt sh dt para
  generalize txt l0 l1 cs fr tt sh dt para=T at *
  by_cases hb:l0.length≠l1.length∨(para≠0∧para≠1)∨w < 1∨w > 1024
  · rw [if_pos (by unfold place_Slots.bad;omega)] at s2 s3 s4
    refine Ev.bind s2 (Ev.bind s3 (Ev.bind s4 (Ev.ifp rfl (Ev.succ ?_))))
    simp only [parquetrylaw19_PlaceAligns.j0]
    exact Ev.ifn (by decide) (Ev.ifn (by decide) (Ev.bind awake_ev (Ev.now _)))
  rw [if_neg (by unfold place_Slots.bad;omega)] at s2 s3 s4
  by_cases hh:0≤fr∧fr≤sh∧sh≤tt∧tt≤(cs.length:Int)
  · rw [if_pos hh] at s2 s3 s4
    have n2:=laid_len T w 2 (by omega)
    have n3:=laid_len T w 3 (by omega)
    have n4:=laid_len T w 4 (by omega)
    refine Ev.bind s2 (Ev.bind s3 (Ev.bind s4 (Ev.ifp rfl (Ev.succ ?_))))
    simp only [parquetrylaw19_PlaceAligns.j0]
    refine Ev.ifn (by decide) (Ev.ifp trivial ?_)
    refine Ev.bind (bare_laid T htk w 2 (by omega) (by omega)) (Ev.bind (bare_laid T htk w 3 (by omega) (by omega)) (Ev.bind (bare_laid T htk w 4 (by omega) (by omega)) ?_))
    refine Ev.ifp rfl (Ev.ifp rfl (Ev.ifp n2 (Ev.ifp n3 (Ev.succ ?_))))
    simp only [parquetrylaw19_PlaceAligns.j1]
    refine Ev.ifn (by rw [n4];simp) ?_
    have hl:(T.take w.toNat).length=min w.toNat T.length:=List.length_take
    generalize T.take w.toNat=X at *
    refine aligns_l0 w X (by omega) (by omega) _ _ _ (by omega) (fun hX=>?_) (fun hX=>?_) (fun hX=>?_) X.length 0 (by omega)
    · rw [if_neg hX];rfl
    · rw [if_neg hX];rfl
    · rw [if_neg hX];rfl
  · rw [if_neg hh] at s2 s3 s4
    refine Ev.bind s2 (Ev.bind s3 (Ev.bind s4 (Ev.ifp rfl (Ev.succ ?_))))
    simp only [parquetrylaw19_PlaceAligns.j0]
    exact Ev.ifn (by decide) (Ev.ifn (by decide) (Ev.bind awake_ev (Ev.now _)))
end Go.Proofs.Yteoaegigjlhamaa.Pure
