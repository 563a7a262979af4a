/- Words for rows of structs that lead nowhere: such a row is its cells; and for what copies cells into a block. Conditions: none of its own. -/
import Derived.Test.YteoaegigjlhamaaWMore
import Derived.Test.YteoaegigjlhamaaHArr
import Derived.Laws.IdiomCopy
import Derived.Laws.Rows
namespace Go.Proofs.YteoaegigjlhamaaH
open Go.RowKit Go.Proofs.YteoaegigjlhamaaW.PrintWords Go.Proofs.YteoaegigjlhamaaW.PrintLast Go.Proofs.YteoaegigjlhamaaW.PrintMore
set_option linter.unusedVariables false
set_option linter.unusedSimpArgs false
structure Flat {α:Type} (d:Kd α) (enc:α→List Value):Prop where
  K: ∀ w x cs,d.K w x cs ↔ cs=enc x
  M: ∀ w base ok x cs,d.M w base ok x cs ↔ cs=enc x
  pos:0 < d.sz
section
variable {α : Type} {d : Kd α} {enc : α → List Value}
theorem Flat.len (F:Flat d enc) (w:World) (x:α):(enc x).length=d.sz:=d.K_len ((F.K w x _).2 rfl)
theorem Flat.one (F:Flat d enc) (w:World) (xs:List α): ∀ u ∈ xs.flatMap enc,u.oneCell'=true:=by
  intro u hu
  obtain ⟨x,_,h⟩:=List.mem_flatMap.1 hu
  exact d.K_one ((F.K w x _).2 rfl) u h
theorem Flat.flat_len (F:Flat d enc) (w:World) (xs:List α):(xs.flatMap enc).length=xs.length * d.sz:=by
  induction xs with
  | nil=>simp
  | cons x xs ih=>rw [List.flatMap_cons,List.length_append,F.len w,ih,List.length_cons,Nat.succ_mul,Nat.add_comm]
theorem reps_of_flat (sz:Nat) (he: ∀ x,(enc x).length=sz): ∀ (xs:List α),Reps (fun x cs=>cs=enc x) sz xs (xs.flatMap enc)
  | []=>Reps.none _ _
  | x::xs=>by
    have ih:=reps_of_flat sz he xs
    refine ⟨by rw [List.flatMap_cons,List.length_append,he,ih.1,List.length_cons,Nat.succ_mul,Nat.add_comm],fun j p hj=>?_⟩
    cases j with
    | zero =>
      obtain rfl:x=p:=by simpa using hj
      rw [List.flatMap_cons,Nat.zero_mul,List.drop_zero,List.take_append_of_le_length (by rw [he];exact Nat.le_refl _),List.take_of_length_le (by rw [he];exact Nat.le_refl _)]
    | succ j =>
      rw [List.flatMap_cons,List.drop_append,he,List.drop_of_length_le (by rw [he,Nat.succ_mul];omega),List.nil_append,show (j+1) * sz - sz=j * sz by rw [Nat.succ_mul];omega]
      exact ih.2 j p (by simpa using hj)
theorem flat_of_reps (sz:Nat): ∀ (xs:List α) (cs:List Value),Reps (fun x cs=>cs=enc x) sz xs cs→cs=xs.flatMap enc
  | [],cs,h=>by
    have:=h.1
    simp at this
    simpa using this
  | x::xs,cs,h=>by
    have h0:=h.2 0 x rfl
    simp only [Nat.zero_mul,List.drop_zero] at h0
    have hr:Reps (fun x cs=>cs=enc x) sz xs (cs.drop sz):=⟨by rw [List.length_drop,h.1,List.length_cons,Nat.succ_mul];omega,fun j p hj=>by
      have:=h.2 (j+1) p (by simpa using hj)
      rwa [List.drop_drop,show sz+j * sz=(j+1) * sz by rw [Nat.succ_mul];omega]⟩
    rw [List.flatMap_cons,← h0,← flat_of_reps sz xs _ hr,List.take_append_drop]
theorem Flat.open_ (F:Flat d enc) {e base:Nat} {W:World} {ok:Nat→Prop} {v:Value} {xs:List α} (h:d.R e W base ok v xs) (hp:0 < xs.length) :
    ∃ g cap cur,v= .slice (some ⟨g,0,none⟩) xs.length cap∧base≤g∧ok g∧W.heap[g]?=some (.cells cur e (0,0))∧xs.length≤cap∧cap≤maxLen∧cur.size=cap * d.sz∧cur.toList.take (xs.length * d.sz)=xs.flatMap enc:=by
  obtain ⟨hok,inner,ho,hr⟩:=h
  have hf:=flat_of_reps d.sz xs inner (hr.imp_ (fun x cs hx=>(F.M _ _ _ x cs).1 hx))
  rcases ho.2 with ⟨_,h0⟩|⟨g,cap,cur,rfl,hb,hh,hnc,hcm,hcs,ht⟩
  · omega
  · exact ⟨g,cap,cur,rfl,hb,hok g (by simp [Value.ownBlock]),hh,hnc,hcm,hcs,ht.trans hf⟩
theorem Flat.close_ (F:Flat d enc) {e base g cap:Nat} {W:World} {ok:Nat→Prop} {cur:Array Value} {xs:List α} (hb:base≤g) (hok:ok g) (hh:W.heap[g]?=some (.cells cur e (0,0))) (hnc:xs.length≤cap) (hcm:cap≤maxLen) (hcs:cur.size=cap * d.sz) (ht:cur.toList.take (xs.length * d.sz)=xs.flatMap enc) :
    d.R e W base ok (.slice (some ⟨g,0,none⟩) xs.length cap) xs :=
  ⟨fun k hk=>by simp only [Value.ownBlock,Option.some.injEq] at hk;rw [← hk];exact hok,xs.flatMap enc,⟨F.flat_len W xs,.inr ⟨g,cap,cur,rfl,hb,hh,hnc,hcm,hcs,ht⟩⟩,(reps_of_flat d.sz (F.len W) xs).imp_ (fun x cs hx=>(F.M _ _ _ x cs).2 hx)⟩
theorem Flat.cells (F:Flat d enc) {W:World} {ad:Addr} {n:Nat} {xs:List α} (h:d.C W (some ad) n xs): ∀ j u,(xs.flatMap enc)[j]?=some u→W.cell? (ad.add j)=some u:=by
  obtain ⟨inner,hr,hc⟩:=ReadsRow.inner_ h
  rw [← flat_of_reps d.sz xs inner (hr.imp_ (fun x cs hx=>(F.K _ x cs).1 hx))]
  exact hc
end
theorem run_copy_cellsS {P:Program} (s:Nat) (w:World) (dT sT ty elem:TypeId) (b o dLen dCap:Nat) (a:Addr) (sLen sCap:Nat) (cs:List Value)
    (hu:P.underlying dT=some (.slice elem)) (hs:(P.info? elem).map (·.size)=some s) (hn:cs.length=Nat.min sLen dLen * s)
    (hsrc: ∀ j v,cs[j]?=some v→w.cell? (a.add j)=some v) (hc: ∀ j,j < cs.length→(w.cell? ⟨b,o+j,none⟩).isSome=true) (hf: ∀ j,j < cs.length→w.frozen? ⟨b,o+j,none⟩=false) (h1: ∀ v ∈ cs,v.oneCell'=true) :
    (Builtin.copy_ #[dT,sT] ty #[.slice (some ⟨b,o,none⟩) dLen dCap,.slice (some a) sLen sCap]).run P w= .ok (goInt (Nat.min sLen dLen:Nat)) (w.setCells b o cs):=by
  have hl:=run_loadCells_list (P:=P) w a cs hsrc
  have hst:=run_storeCells_cells (P:=P) b o cs 0 w (by simpa using hc) (by simpa using hf) h1
  cases hq:P.info? elem with
  | none=>simp [hq] at hs
  | some i =>
    have hi:i.size=s:=by simpa [hq] using hs
    simp [Builtin.copy_,run_underlying hu,Builtin.lenOf,Builtin.firstCells,sizeOf,typeInfo,hq,hi,← hn,hl,hst]
theorem copy_blk {P:Program} (s:Nat) (W:World) (t t' ty e:TypeId) (ht:P.underlying t=some (.slice e)) (hs:(P.info? e).map (·.size)=some s) {g:Nat} {cur:Array Value} (hh:W.heap[g]?=some (.cells cur e (0,0)))
    (o dLen dCap:Nat) (ad:Addr) (sLen sCap:Nat) (cs:List Value) (hn:cs.length=Nat.min sLen dLen * s) (hsrc: ∀ j v,cs[j]?=some v→W.cell? (ad.add j)=some v) (hfit:o+cs.length≤cur.size) (h1: ∀ v ∈ cs,v.oneCell'=true) :
    ∃ W1 cur1,(Builtin.copy_ #[t,t'] ty #[.slice (some ⟨g,o,none⟩) dLen dCap,.slice (some ad) sLen sCap]).run P W= .ok (goInt (Nat.min sLen dLen:Nat)) W1∧W1.heap[g]?=some (.cells cur1 e (0,0))∧cur1.size=cur.size∧cur1.toList=cur.toList.take o++cs++cur.toList.drop (o+cs.length)∧W.grownBy W1 (some g):=by
  obtain ⟨cur',h3,h4,h5⟩:=setCells_row cs o W cur hh hfit
  obtain ⟨s1,s2,s3,s4⟩:=setCells_same g cs o W
  refine ⟨W.setCells g o cs,cur',?_,h3,h4,h5,⟨s1,s2,s3,by rw [s4];exact Nat.le_refl _,fun k _ hk=>setCells_far cs o k (fun he=>hk (by rw [he]))⟩⟩
  exact run_copy_cellsS s W t t' ty e g o dLen dCap ad sLen sCap cs ht hs hn hsrc (fun j hj=>by rw [cell_of_row W g _ cur e (0,0) hh];simp;omega) (fun j _=>blk_frozen hh _) h1
theorem copy_noneS {P:Program} (s:Nat) (w:World) (dT sT ty elem:TypeId) (d a:Option Addr) (dCap sLen sCap:Nat) (hu:P.underlying dT=some (.slice elem)) (hs:(P.info? elem).map (·.size)=some s) :
    (Builtin.copy_ #[dT,sT] ty #[.slice d 0 dCap,.slice a sLen sCap]).run P w= .ok (goInt 0) w:=by
  cases hq:P.info? elem with
  | none=>simp [hq] at hs
  | some i =>
    have hl: ∀ (x:Addr),(loadCells x 0).run P w= .ok #[] w:=fun x=>by simpa using run_loadCells_list (P:=P) w x [] (by simp)
    cases d <;> cases a <;> simp [Builtin.copy_,run_underlying hu,Builtin.lenOf,Builtin.firstCells,sizeOf,typeInfo,hq,storeCells,hl]
section
variable {P : Program} {ops : Array Oper} {rest : List Oper} {o : Oper} {a : Act} {Q : Exit → Act → World → Prop} {W : World}
theorem copy_event (hgd:o.guard=none) (s x:Operand) (t t':TypeId) (ho:o.op= .call {callee:= .builtin .copy,args:= #[s,x],argTypes:= #[t,t']}) (v u:Value) (hs:a.eval s=v) (hx:a.eval x=u) {v':Value} {w':World}
    (hr:(Builtin.copy_ #[t,t'] o.type #[v,u]).run P W= .ok v' w') (h:wpList P ops Q rest (a.put o.dst v') w'):wpList P ops Q (o::rest) a W:=by
  refine wpList_plain hgd fun K hK=>?_
  unfold Oper.wp execOp
  simp only [ho,resolve,invoke,builtin,Sem.run_bind,Sem.run_pure,Result.andThen_ok,List.map_toArray,List.map_cons,List.map_nil,hs,hx,hr]
  exact hK _ _ h
theorem copy_step {K:Act→World→Prop} {E:Prop} (hg:o.guard=none) (d x:Operand) (t t':TypeId) (ho:o.op= .call {callee:= .builtin .copy,args:= #[d,x],argTypes:= #[t,t']}) (v u:Value) (hd:a.eval d=v) (hx:a.eval x=u) {v':Value} {w':World}
    (hr:(Builtin.copy_ #[t,t'] o.type #[v,u]).run P W= .ok v' w') (hK:K (a.put o.dst v') w'):if Region.wanted o (yielded ops a.tmps)=true then Oper.wp P o a W K Q else E:=by
  have hw:Region.wanted o (yielded ops a.tmps)=true:=by simp [Region.wanted,hg]
  rw [if_pos hw]
  unfold Oper.wp
  simp [execOp,ho,resolve,invoke,builtin,hd,hx,hr,Result.andThen]
  exact hK
end
theorem Flat.copy {α:Type} {d:Kd α} {enc:α→List Value} (F:Flat d enc) {P:Program} (W:World) (t t' ty e:TypeId) (ht:P.underlying t=some (.slice e)) (hs:(P.info? e).map (·.size)=some d.sz) {base g n cap:Nat} {ok:Nat→Prop} {xs:List α}
    (HO:d.R e W base ok (.slice (some ⟨g,0,none⟩) n cap) xs) (hp:0 < n) (i:Nat) (hi:i≤n) (c' m sc:Nat) (ad:Addr) (ys:List α) (HC:d.C W (some ad) m ys) :
    ∃ W1,(Builtin.copy_ #[t,t'] ty #[.slice (some ⟨g,i * d.sz,none⟩) (n - i) c',.slice (some ad) m sc]).run P W= .ok (goInt (Nat.min m (n - i):Nat)) W1∧d.R e W1 base ok (.slice (some ⟨g,0,none⟩) n cap) (xs.take i++ys.take (min m (n - i))++xs.drop (i+min m (n - i)))∧W.grownBy W1 (some g):=by
  obtain rfl:n=xs.length:=(Kd.R_reads' HO).1
  have hm:ys.length=m:=HC.1
  obtain ⟨g',cap',cur,he,hb,hok,hh,hnc,hcm,hcs,htk⟩:=F.open_ HO hp
  injection he with ha _ hc
  injection ha with ha
  injection ha with hg
  subst hg hc
  have hle:min m (xs.length - i)≤ys.length:=by rw [hm];exact Nat.min_le_left _ _
  have hkl:((ys.take (min m (xs.length - i))).flatMap enc).length=min m (xs.length - i) * d.sz:=by rw [F.flat_len W,List.length_take,Nat.min_eq_left hle]
  have hpre: ∀ j u,((ys.take (min m (xs.length - i))).flatMap enc)[j]?=some u→W.cell? (ad.add j)=some u:=by
    intro j u hu
    refine F.cells HC j u ?_
    have e1:ys.flatMap enc=(ys.take (min m (xs.length - i))).flatMap enc++(ys.drop (min m (xs.length - i))).flatMap enc:=by rw [← List.flatMap_append,List.take_append_drop]
    rw [e1,List.getElem?_append_left (List.getElem?_eq_some_iff.1 hu).1]
    exact hu
  have hfit:i * d.sz+min m (xs.length - i) * d.sz≤xs.length * d.sz:=by
    rw [← Nat.add_mul]
    exact Nat.mul_le_mul_right _ (by omega)
  have hfit2:xs.length * d.sz≤cap * d.sz:=Nat.mul_le_mul_right _ hnc
  obtain ⟨W1,cur1,hr,h3,h4,h5,h6⟩:=copy_blk (P:=P) d.sz W t t' ty e ht hs hh (i * d.sz) (xs.length - i) c' ad m sc ((ys.take (min m (xs.length - i))).flatMap enc) hkl hpre (by rw [hkl];omega) (F.one W _)
  refine ⟨W1,hr,?_,h6⟩
  have hln:(xs.take i++ys.take (min m (xs.length - i))++xs.drop (i+min m (xs.length - i))).length=xs.length:=by
    simp only [List.length_append,List.length_take,List.length_drop]
    omega
  have:=F.close_ (xs:=xs.take i++ys.take (min m (xs.length - i))++xs.drop (i+min m (xs.length - i))) (base:=base) (ok:=ok) (cap:=cap) hb hok h3 (by rw [hln];exact hnc) hcm (by rw [h4,hcs]) ?_
  · rwa [hln] at this
  · have hx:cur.toList=xs.flatMap enc++cur.toList.drop (xs.length * d.sz):=by
      conv=>lhs;rw [← List.take_append_drop (xs.length * d.sz) cur.toList]
      rw [htk]
    have hxl:(xs.flatMap enc).length=xs.length * d.sz:=F.flat_len W xs
    have ex:xs.flatMap enc=(xs.take i).flatMap enc++((xs.drop i).take (min m (xs.length - i))).flatMap enc++(xs.drop (i+min m (xs.length - i))).flatMap enc:=by
      rw [← List.flatMap_append,← List.flatMap_append,List.append_assoc,← List.drop_drop,List.take_append_drop,List.take_append_drop]
    have hl1:((xs.take i).flatMap enc).length=i * d.sz:=by rw [F.flat_len W,List.length_take,Nat.min_eq_left hi]
    have hl2:(((xs.drop i).take (min m (xs.length - i))).flatMap enc).length=min m (xs.length - i) * d.sz:=by rw [F.flat_len W,List.length_take,List.length_drop,Nat.min_eq_left (Nat.min_le_right _ _)]
    rw [hln,h5,hkl,List.flatMap_append,List.flatMap_append,hx,ex]
    have e1:((xs.take i).flatMap enc++((xs.drop i).take (min m (xs.length - i))).flatMap enc++(xs.drop (i+min m (xs.length - i))).flatMap enc++cur.toList.drop (xs.length * d.sz)).take (i * d.sz)=(xs.take i).flatMap enc:=by
      rw [List.append_assoc,List.append_assoc,List.take_append_of_le_length (by rw [hl1];exact Nat.le_refl _),List.take_of_length_le (by rw [hl1];exact Nat.le_refl _)]
    have e2:((xs.take i).flatMap enc++((xs.drop i).take (min m (xs.length - i))).flatMap enc++(xs.drop (i+min m (xs.length - i))).flatMap enc++cur.toList.drop (xs.length * d.sz)).drop (i * d.sz+min m (xs.length - i) * d.sz)=(xs.drop (i+min m (xs.length - i))).flatMap enc++cur.toList.drop (xs.length * d.sz):=by
      rw [List.append_assoc,List.drop_append_of_le_length (by rw [List.length_append,hl1,hl2];exact Nat.le_refl _),List.drop_of_length_le (by rw [List.length_append,hl1,hl2];exact Nat.le_refl _),List.nil_append]
    rw [e1,e2,← List.append_assoc,List.take_append_of_le_length,List.take_of_length_le]
    · rw [List.length_append,List.length_append,hl1,hkl,F.flat_len W,List.length_drop,← Nat.add_mul,← Nat.add_mul]
      exact Nat.mul_le_mul_right _ (by omega)
    · rw [List.length_append,List.length_append,hl1,hkl,F.flat_len W,List.length_drop,← Nat.add_mul,← Nat.add_mul]
      exact Nat.mul_le_mul_right _ (by omega)
end Go.Proofs.YteoaegigjlhamaaH
