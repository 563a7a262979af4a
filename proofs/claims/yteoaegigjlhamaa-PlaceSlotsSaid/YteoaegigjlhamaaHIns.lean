/- Words for an insertion ahead of a row of structs: where the row has no room, and where it has. Conditions: none of its own. -/
import Derived.Test.YteoaegigjlhamaaHCpy
import Derived.Lib.AppendZerosOnto
import Derived.Lib.Overlaps
namespace Go.Proofs.YteoaegigjlhamaaH
open Go.RowKit Go.Proofs.YteoaegigjlhamaaW.PrintWords Go.Proofs.YteoaegigjlhamaaW.PrintLast Go.Proofs.YteoaegigjlhamaaW.PrintMore
set_option linter.unusedVariables false
set_option linter.unusedSimpArgs false
theorem append_event {P:Program} {ops:Array Oper} {rest:List Oper} {o:Oper} {a:Act} {Q:Exit→Act→World→Prop} {W:World} (hgd:o.guard=none) (s x:Operand) (t t':TypeId) (ho:o.op= .call {callee:= .builtin .append,args:= #[s,x],argTypes:= #[t,t']}) (v u:Value) (hs:a.eval s=v) (hx:a.eval x=u) {v':Value} {w':World}
    (hr:(Builtin.append_ #[t,t'] o.type #[v,u]).run P W= .ok v' w') (h:wpList P ops Q rest (a.put o.dst v') w'):wpList P ops Q (o::rest) a W:=by
  refine wpList_plain hgd fun K hK=>?_
  unfold Oper.wp execOp
  simp only [ho,resolve,invoke,builtin,Sem.run_bind,Sem.run_pure,Result.andThen_ok,List.map_toArray,List.map_cons,List.map_nil,hs,hx,hr]
  exact hK _ _ h
theorem zeroCells_size (z:Array Value) (n:Nat):(Builtin.zeroCells z n).size=n * z.size:=by simp [Builtin.zeroCells]
section
variable {α : Type} {d : Kd α} {enc : α → List Value}
theorem Flat.closing (F:Flat d enc) {e base g cap:Nat} {W:World} {ok:Nat→Prop} {cur:Array Value} (x:α) (xs:List α) (rest:List Value) (hb:base≤g) (hok:ok g) (hh:W.heap[g]?=some (.cells cur e (0,0))) (hnc:xs.length+1≤cap) (hcm:cap≤maxLen) (hcs:cur.size=cap * d.sz) (hc:cur.toList=enc x++xs.flatMap enc++rest) :
    d.R e W base ok (.slice (some ⟨g,0,none⟩) (xs.length+1) cap) (x::xs):=by
  refine F.close_ (xs:=x::xs) hb hok hh hnc hcm hcs ?_
  have hl:(enc x++xs.flatMap enc).length=(x::xs).length * d.sz:=by rw [List.length_append,F.len W,F.flat_len W,List.length_cons,Nat.succ_mul,Nat.add_comm]
  rw [hc,List.take_append_of_le_length (by rw [hl];exact Nat.le_refl _),List.take_of_length_le (by rw [hl];exact Nat.le_refl _),List.flatMap_cons]
theorem Flat.grow (F:Flat d enc) {P:Program} (w:World) (t tn e ty1 ty2 ty3:TypeId) (ht:P.underlying t=some (.slice e)) (htn:P.underlying tn=some (.int .i64)) (z:Value) (bytes:Nat) (hinfo:(P.info? e).map (fun i=>(i.zero,i.size,i.bytes))=some (some z,d.sz,bytes)) (hz:z.cells.size=d.sz) (hby:bytes≤1000)
    (g n cap g2 c2:Nat) (x:α) (xs:List α) (HS:d.C w (some ⟨g,0,none⟩) n xs) (hn:0 < n) (hcap:cap < n+1) (hn2:n < 1000000) (HV:d.C w (some ⟨g2,0,none⟩) 1 [x]) :
    ∃ G W1 W2 W3,n+1≤G∧(Builtin.append_ #[t,tn] ty1 #[.slice (some ⟨g,0,none⟩) 0 cap,.int .i64 ((n+1:Nat):Int)]).run P w= .ok (.slice (some ⟨w.heap.size,0,none⟩) (n+1) G) W1 ∧
      (Builtin.copy_ #[t,t] ty2 #[.slice (some ⟨w.heap.size,0,none⟩) (n+1) G,.slice (some ⟨g2,0,none⟩) 1 c2]).run P W1= .ok (.int .i64 1) W2 ∧
      (Builtin.copy_ #[t,t] ty3 #[.slice (some ⟨w.heap.size,d.sz,none⟩) n (G - 1),.slice (some ⟨g,0,none⟩) n cap]).run P W2.drew= .ok (.int .i64 (n:Int)) W3 ∧
      d.R e W3 w.heap.size (fun k=>w.heap.size≤k) (.slice (some ⟨w.heap.size,0,none⟩) (n+1) G) (x::xs)∧Below w.heap.size w W3:=by
  obtain ⟨i0,hi,hzz⟩:=Option.map_eq_some_iff.1 hinfo
  simp only [Prod.mk.injEq] at hzz
  obtain ⟨hz0,hz1,hz2⟩:=hzz
  have hs:(P.info? e).map (·.size)=some d.sz:=by rw [hi,Option.map_some,hz1]
  have hxl:xs.length=n:=HS.1
  have hold:(Builtin.firstCells i0.size 0 (.slice (some ⟨g,0,none⟩) 0 cap)).run P w.drew= .ok ([]:List Value).toArray w.drew:=by
    have:=run_loadCells_list (P:=P) w.drew ⟨g,0,none⟩ [] (by simp)
    simpa [Builtin.firstCells] using this
  have hr:=Lib.run_append_grow_zeros w t tn ty1 e i0 z .i64 .i64 ht htn hi hz0 (some ⟨g,0,none⟩) 0 cap [] hold (n+1) (Nat.succ_pos _) (by rw [hz1];exact F.pos) (by omega) (by omega)
    (by rw [hz2];exact Nat.le_trans (Nat.mul_le_mul_left _ hby) (by omega)) (growslice_fits (by omega) (by rw [hz2];exact Nat.le_trans (Nat.mul_le_mul_left _ hby) (by omega)))
  rw [Nat.zero_add] at hr
  have hG:=grownCap_ge w (n+1) cap e
  have hGm:=grownCap_le_maxLen w (n+1) cap e (by simp only [maxLen];omega)
  generalize grownCap w (n+1) cap e=G at hr hG hGm
  obtain ⟨ROW,hROW⟩: ∃ ROW:Array Value,ROW=([]:List Value).toArray++Builtin.zeroCells z.cells (n+1)++Builtin.zeroCells z.cells (G - (n+1)):=⟨_,rfl⟩
  have hRs:ROW.size=G * d.sz:=by
    rw [hROW]
    simp only [Array.size_append,zeroCells_size,hz]
    rw [show ([]:List Value).toArray.size=0 from rfl,Nat.zero_add,← Nat.add_mul]
    congr 1
    omega
  rw [← hROW] at hr
  obtain ⟨W1,hW1⟩: ∃ W1,W1=w.drew.alloc (.cells ROW e):=⟨_,rfl⟩
  rw [← hW1] at hr
  have h1:W1.heap[w.heap.size]?=some (.cells ROW e (0,0)):=by rw [hW1];exact heap_alloc_new w.drew _
  have b1:Below w.heap.size w W1:=by rw [hW1];exact below_alloc (below_drew (Below.refl _ _)) _
  have hszG:d.sz≤G * d.sz:=Nat.le_mul_of_pos_left _ (by omega)
  have hnG:(n+1) * d.sz≤G * d.sz:=Nat.mul_le_mul_right _ hG
  have hn1:n * d.sz+d.sz=(n+1) * d.sz:=(Nat.succ_mul _ _).symm
  have hx1:([x].flatMap enc).length=Nat.min 1 (n+1) * d.sz:=by rw [F.flat_len w,show Nat.min 1 (n+1)=1 from Nat.min_eq_left (by omega),List.length_singleton]
  have hx2:([x].flatMap enc).length=d.sz:=by rw [F.flat_len w,List.length_singleton,Nat.one_mul]
  obtain ⟨W2,cur2,r2,h2,s2,t2,g2'⟩:=copy_blk (P:=P) d.sz W1 t t ty2 e ht hs h1 0 (n+1) G ⟨g2,0,none⟩ 1 c2 ([x].flatMap enc) hx1 (F.cells (Kd.C_below HV b1)) (by rw [hx2,hRs,Nat.zero_add];exact hszG) (F.one w _)
  rw [show Nat.min 1 (n+1)=1 from Nat.min_eq_left (by omega)] at r2
  have b2:Below w.heap.size w W2:=b1.grown g2' b1.size (fun k hk=>by injection hk with hk;omega)
  have h2':W2.drew.heap[w.heap.size]?=some (.cells cur2 e (0,0)):=h2
  have hfl:(xs.flatMap enc).length=Nat.min n n * d.sz:=by rw [F.flat_len w,hxl,show Nat.min n n=n from Nat.min_self n]
  have hfl2:(xs.flatMap enc).length=n * d.sz:=by rw [F.flat_len w,hxl]
  obtain ⟨W3,cur3,r3,h3,s3,t3,g3'⟩:=copy_blk (P:=P) d.sz W2.drew t t ty3 e ht hs h2' d.sz n (G - 1) ⟨g,0,none⟩ n cap (xs.flatMap enc) hfl (F.cells (Kd.C_below HS (below_drew b2))) (by rw [hfl2,s2,hRs];omega) (F.one w _)
  rw [show Nat.min n n=n from Nat.min_self n] at r3
  have b3:Below w.heap.size w W3:=(below_drew b2).grown g3' b2.size (fun k hk=>by injection hk with hk;omega)
  refine ⟨G,W1,W2,W3,hG,hr,r2,r3,?_,b3⟩
  have hc2:cur2.toList.take d.sz=enc x:=by
    rw [t2,List.take_zero,List.nil_append,List.take_append_of_le_length (by rw [hx2];exact Nat.le_refl _),List.take_of_length_le (by rw [hx2];exact Nat.le_refl _)]
    simp
  have:=F.closing (ok:=fun k=>w.heap.size≤k) (base:=w.heap.size) x xs _ (Nat.le_refl _) (Nat.le_refl _) h3 (by rw [hxl];exact hG) hGm (by rw [s3,s2,hRs]) (by rw [t3,hc2])
  rwa [hxl] at this
theorem Flat.room (F:Flat d enc) {P:Program} (w:World) (t e ty1 ty2:TypeId) (ht:P.underlying t=some (.slice e)) (hs:(P.info? e).map (·.size)=some d.sz) {base g n cap:Nat} {ok:Nat→Prop} (g2 c2:Nat) (x:α) (xs:List α)
    (HS:d.R e w base ok (.slice (some ⟨g,0,none⟩) n cap) xs) (hn:0 < n) (hcap:n+1≤cap) (hne:g2≠g) (HV:d.C w (some ⟨g2,0,none⟩) 1 [x]) :
    ∃ W1 W2,(Builtin.copy_ #[t,t] ty1 #[.slice (some ⟨g,d.sz,none⟩) n (cap - 1),.slice (some ⟨g,0,none⟩) (n+1) cap]).run P w.drew= .ok (.int .i64 (n:Int)) W1 ∧
      (Builtin.copy_ #[t,t] ty2 #[.slice (some ⟨g,0,none⟩) (n+1) cap,.slice (some ⟨g2,0,none⟩) 1 c2]).run P W1= .ok (.int .i64 1) W2 ∧
      d.R e W2 base ok (.slice (some ⟨g,0,none⟩) (n+1) cap) (x::xs)∧w.grownBy W2 (some g):=by
  have hxl:n=xs.length:=(Kd.R_reads' HS).1
  have HC:=(Kd.R_reads' HS).2.2
  rw [← hxl] at HC
  rw [hxl] at HS
  obtain ⟨g',cap',cur,he,hb,hok,hh,hnc,hcm,hcs,htk⟩:=F.open_ HS (by omega)
  injection he with ha _ hc
  injection ha with ha
  injection ha with hg
  subst hg hc
  have hfl:(xs.flatMap enc).length=Nat.min (n+1) n * d.sz:=by rw [F.flat_len w,← hxl,show Nat.min (n+1) n=n from Nat.min_eq_right (by omega)]
  have hfl2:(xs.flatMap enc).length=n * d.sz:=by rw [F.flat_len w,← hxl]
  have hn1:n * d.sz+d.sz=(n+1) * d.sz:=(Nat.succ_mul _ _).symm
  have hnG:(n+1) * d.sz≤cap * d.sz:=Nat.mul_le_mul_right _ hcap
  obtain ⟨W1,cur1,r1,h1,s1,t1,g1'⟩:=copy_blk (P:=P) d.sz w.drew t t ty1 e ht hs (show w.drew.heap[g]?=_ from hh) d.sz n (cap - 1) ⟨g,0,none⟩ (n+1) cap (xs.flatMap enc) hfl (F.cells (Kd.C_drew HC)) (by rw [hfl2,hcs];omega) (F.one w _)
  rw [show Nat.min (n+1) n=n from Nat.min_eq_right (by omega)] at r1
  have hx1:([x].flatMap enc).length=Nat.min 1 (n+1) * d.sz:=by rw [F.flat_len w,show Nat.min 1 (n+1)=1 from Nat.min_eq_left (by omega),List.length_singleton]
  have hx2:([x].flatMap enc).length=d.sz:=by rw [F.flat_len w,List.length_singleton,Nat.one_mul]
  have hv1: ∀ j u,([x].flatMap enc)[j]?=some u→W1.cell? ((⟨g2,0,none⟩:Addr).add j)=some u:=by
    intro j u hu
    have h5:=F.cells HV j u hu
    rw [add_plain] at h5 ⊢
    have hlt:g2 < w.drew.heap.size:=World.block_lt_of_cell? w _ h5
    have e1:W1.heap[g2]?=w.drew.heap[g2]?:=g1'.block g2 hlt (fun h=>hne (by injection h))
    have e2:W1.cell? ⟨g2,j,none⟩=w.drew.cell? ⟨g2,j,none⟩:=by unfold World.cell?;rw [e1]
    rw [e2]
    exact h5
  obtain ⟨W2,cur2,r2,h2,s2,t2,g2'⟩:=copy_blk (P:=P) d.sz W1 t t ty2 e ht hs h1 0 (n+1) cap ⟨g2,0,none⟩ 1 c2 ([x].flatMap enc) hx1 hv1 (by rw [hx2,s1,hcs,Nat.zero_add];omega) (F.one w _)
  rw [show Nat.min 1 (n+1)=1 from Nat.min_eq_left (by omega)] at r2
  refine ⟨W1,W2,r1,r2,?_,⟨g2'.os.trans g1'.os,g2'.tape.trans g1'.tape,g2'.output.trans g1'.output,Nat.le_trans g1'.size g2'.size,fun k hk hne=>(g2'.block k (Nat.lt_of_lt_of_le hk g1'.size) hne).trans (g1'.block k hk hne)⟩⟩
  · have hl6:(cur.toList.take d.sz).length=d.sz:=by rw [List.length_take,Array.length_toList,hcs];omega
    have hc2:cur2.toList=enc x++xs.flatMap enc++cur.toList.drop (d.sz+(xs.flatMap enc).length):=by
      rw [t2,List.take_zero,List.nil_append,hx2,Nat.zero_add,t1,List.append_assoc,List.append_assoc,List.drop_append_of_le_length (by rw [hl6];exact Nat.le_refl _),List.drop_of_length_le (by rw [hl6];exact Nat.le_refl _)]
      simp
    have:=F.closing (ok:=ok) (base:=base) x xs _ hb hok h2 (by rw [← hxl];exact hcap) hcm (by rw [s2,s1,hcs]) hc2
    rwa [← hxl] at this
end
end Go.Proofs.YteoaegigjlhamaaH
