/- Words for arrays whose value is written out, and for searches in rows that rise. Conditions: none of its own. -/
import Derived.Test.YteoaegigjlhamaaWMore
import Derived.Test.YteoaegigjlhamaaWRepsOne
import Derived.Shelf.Abstract
import Derived.Great.BuildSlice
import Derived.Laws.Tables
import Derived.Laws.Cells
import Derived.Laws.Rows
namespace Go.Proofs.YteoaegigjlhamaaH
open Go.RowKit Go.Proofs.YteoaegigjlhamaaW.PrintWords Go.Proofs.YteoaegigjlhamaaW.PrintLast Go.Proofs.YteoaegigjlhamaaW.PrintMore
set_option linter.unusedVariables false
set_option linter.unusedSimpArgs false
def nth (l:List Int) (j:Nat):Int:=l.getD j 0
theorem count_split: ∀ (l:List Int) (p:Int→Bool) (i:Nat),i≤l.length→(∀ t,t < i→p (nth l t)=true)→(∀ t,i≤t→t < l.length→p (nth l t)=false)→l.countP p=i
  | [],p,i,hi,_,_=>by simp at hi;simp [hi]
  | a::r,p,0,_,_,h2=>by
    rw [List.countP_eq_zero]
    intro x hx
    obtain ⟨t,ht,rfl⟩:=List.getElem_of_mem hx
    have:=h2 t (Nat.zero_le _) ht
    unfold nth at this
    rw [List.getD_eq_getElem?_getD,List.getElem?_eq_getElem ht] at this
    simpa using this
  | a::r,p,i+1,hi,h1,h2=>by
    have ha:p a=true:=by simpa [nth] using h1 0 (Nat.succ_pos _)
    rw [List.countP_cons_of_pos ha,count_split r p i (by simpa using hi) (fun t ht=>by simpa [nth] using h1 (t+1) (by omega)) (fun t h3 h4=>by simpa [nth] using h2 (t+1) (by omega) (by simpa using h4))]
def rises:List Int→Bool
  | a::b::r=>decide (a≤b) && rises (b::r)
  | _=>true
theorem rises_head: ∀ (r:List Int) (a:Int),rises (a::r)=true→ ∀ t,t < (a::r).length→a≤nth (a::r) t
  | [],a,_,t,ht=>by
    obtain rfl:t=0:=by simpa using ht
    exact Int.le_refl _
  | b::r,a,h,0,_=>Int.le_refl _
  | b::r,a,h,t+1,ht=>by
    simp only [rises,Bool.and_eq_true,decide_eq_true_eq] at h
    have h1:=rises_head r b h.2 t (by simpa using ht)
    have h2:nth (a::b::r) (t+1)=nth (b::r) t:=by simp [nth]
    rw [h2]
    omega
theorem rises_nth: ∀ (l:List Int),rises l=true→ ∀ a b,a≤b→b < l.length→nth l a≤nth l b
  | [],_,a,b,_,hb=>by simp at hb
  | x::r,h,0,b,_,hb=>rises_head r x h b hb
  | x::r,h,a+1,0,hab,_=>by omega
  | x::r,h,a+1,b+1,hab,hb=>by
    have h':rises r=true:=by
      cases r with
      | nil=>rfl
      | cons y r=>simp only [rises,Bool.and_eq_true] at h;exact h.2
    have:=rises_nth r h' a b (by omega) (by simpa using hb)
    simpa [nth] using this
section
variable {P : Program} {ops : Array Oper} {rest : List Oper} {o : Oper} {a : Act} {Q : Exit → Act → World → Prop} {W : World}
theorem alloc_event (hgd:o.guard=none) (t:TypeId) (ho:o.op= .alloc t) (n:Nat) (hz:(P.info? t).bind (fun i=>i.zero.map (fun z=>z.cells.size))=some n)
    (h: ∀ g W1 cs,cs.size=n→g=W.heap.size→W1.heap[g]?=some (.cells cs t (0,0))→Below W.heap.size W W1→W1.heap.size=W.heap.size+1→wpList P ops Q rest (a.put o.dst (.pointer (some ⟨g,0,none⟩))) W1):wpList P ops Q (o::rest) a W:=by
  obtain ⟨i,hi,hzz⟩:=Option.bind_eq_some_iff.1 hz
  obtain ⟨z,hz0,hzn⟩:=Option.map_eq_some_iff.1 hzz
  refine Kd.event_run (w1:=W.alloc (.cells z.cells t)) (v:= .pointer (some ⟨W.heap.size,0,none⟩)) hgd ?_ (h _ _ z.cells hzn rfl (heap_alloc_new W _) (below_alloc (Below.refl _ _) _) (by simp))
  simp [execOp,ho,Instr.alloc,zeroValue,typeInfo,hi,hz0,newVar,newRow,Sem.run,Result.andThen]
def parts_ (l:List Value):Array (Nat × Operand):=(l.zipIdx.map fun (x,i)=>(i,Operand.const x)).toArray
theorem build_event (hgd:o.guard=none) {N:Tmp} (_hd:o.dst=some N) (t:TypeId) (l:List Value) (ho:o.op= .build t (parts_ l)) (v:Value) (hb:(Instr.build t (l.zipIdx.map fun (x,i)=>(i,x)).toArray).run P W= .ok v W)
    (h:wpList P ops Q rest (a.put o.dst v) W):wpList P ops Q (o::rest) a W:=by
  refine Kd.event_run (w1:=W) (v:=v) hgd ?_ h
  have e:((parts_ l).map fun (i,x)=>(i,a.eval x))=(l.zipIdx.map fun (x,i)=>(i,x)).toArray:=by
    simp [parts_,Function.comp_def,Act.eval]
  simp only [execOp,ho,Sem.run_bind]
  rw [e,hb]
  rfl
theorem block_store (hgd:o.guard=none) (hN:o.dst=none) (t:TypeId) (p x:Operand) (ho:o.op= .store t p x) {g:Nat} {e:TypeId} {cur:Array Value} (hp:a.eval p= .pointer (some ⟨g,0,none⟩)) (v:Value) (hx:a.eval x=v)
    (hh:W.heap[g]?=some (.cells cur e (0,0))) (hs:v.cells.size=cur.size) (ht:(P.info? t).map (·.size)=some cur.size) (h1: ∀ q ∈ v.cells.toList,q.oneCell'=true)
    (h: ∀ W1,W1.heap[g]?=some (.cells v.cells e (0,0))→(∀ k,k≠g→W1.heap[k]?=W.heap[k]?)→W1.heap.size=W.heap.size→(∀ B w0,Below B w0 W→B≤g→Below B w0 W1)→wpList P ops Q rest a W1):wpList P ops Q (o::rest) a W:=by
  have hl:v.cells.toList.length=cur.size:=by rw [Array.length_toList];exact hs
  have hrun:=run_store_run (P:=P) (w:=W) (g:=g) (o:=0) (e:=e) (cur:=cur) t v v.cells.toList hh rfl (by rw [ht,hl]) (by omega) h1
  obtain ⟨cur',h3,h4,h5⟩:=setCells_row v.cells.toList 0 W cur hh (by omega)
  obtain ⟨s1,s2,s3,s4⟩:=setCells_same g v.cells.toList 0 W
  have hc:cur'=v.cells:=by
    apply Array.ext'
    rw [h5,List.take_zero,List.nil_append,Nat.zero_add,List.drop_of_length_le (by rw [Array.length_toList];omega),List.append_nil]
  refine wpList_plain hgd fun K hK=>?_
  unfold Oper.wp execOp
  simp only [ho,hp,hx,Sem.run_bind,Sem.run_pure,Result.andThen_ok,hrun]
  show K (a.put o.dst undef) _
  rw [hN]
  refine hK a _ (h _ (by rw [hc] at h3;exact h3) (fun k hk=>setCells_far _ _ k hk) s4 (fun B w0 hb hle=>⟨s1.trans hb.os,s2.trans hb.tape,s3.trans hb.output,by rw [s4];exact hb.size,fun k hk=>(setCells_far _ _ k (by omega)).trans (hb.block k hk)⟩))
end
theorem results_c1 {P:Program} {fn:Func} {p:Tmp} {ty:TypeId} (h:fn.results= #[.cell p ty]) (tmps:Array Value) (w:World) (g:Nat) (t:TypeId) (cs:Array Value) (fr:Nat × Nat) (d:TypeDesc)
    (hp:tmps.getD p undef= .pointer (some ⟨g,0,none⟩)) (hg:w.heap[g]?=some (.cells cs t fr))
    (hu:P.underlying ty=some d) (hd:(match d with| .struct _| .array _ _=>true|_=>false)=true) (hi:(P.info? ty).map (·.size)=some cs.size) :
    (results fn tmps).run P w= .ok (.agg cs) w:=by
  have hp':tmps[p]?.getD undef= .pointer (some ⟨g,0,none⟩):=by simpa using hp
  simp [results,h,hp',asAddr,run_loadVar_row w g t ty cs fr d hg hu hd hi]
theorem nums_one (l:List Int): ∀ q ∈ (Value.agg (nums .i64 l).toArray).cells.toList,q.oneCell'=true:=by
  intro q hq
  have hq':q ∈ nums .i64 l:=by simpa [Value.cells] using hq
  unfold nums at hq'
  obtain ⟨x,_,rfl⟩:=List.mem_map.1 hq'
  rfl
theorem nums_cell (W:World) (g:Nat) (t:TypeId) (l:List Int) (h:W.heap[g]?=some (.cells (nums .i64 l).toArray t (0,0))) (j:Nat) (hj:j < l.length):W.cell? ⟨g,j,none⟩=some (.int .i64 (nth l j)):=by
  rw [blk_cell h j]
  unfold nums nth
  simp [List.getElem?_eq_getElem hj,List.getD_eq_getElem?_getD]
def buildsA (P:Program):List Oper→Act→Option Act
  | [],a=>some a
  | o::r,a =>
    match o.guard,o.op,o.dst with
    | none,.build t ps,some N =>
      match P.built t (ps.map fun (i,x)=>(i,a.eval x)).toList with
      | some cells=>buildsA P r (a.put (some N) (.agg cells))
      | none=>none
    | _,_,_=>none
theorem builds_run {P:Program} {ops:Array Oper} {Q:Exit→Act→World→Prop} {W:World} {rest:List Oper}: ∀ (l:List Oper) (a a':Act),buildsA P l a=some a'→wpList P ops Q rest a' W→wpList P ops Q (l++rest) a W
  | [],a,a',h,hw=>by
    obtain rfl:a=a':=by simpa [buildsA] using h
    exact hw
  | o::r,a,a',h,hw=>by
    unfold buildsA at h
    split at h
    · rename_i t ps N hg ho hd
      split at h
      · rename_i cells hc
        rw [List.cons_append]
        refine wpList_build hg t ps ho ?_ ?_
        · rw [hc];rfl
        · rw [hc,hd]
          exact builds_run r _ a' h hw
      · cases h
    · cases h
theorem builds_event {P:Program} {ops:Array Oper} {Q:Exit→Act→World→Prop} {W:World} {a:Act} (n:Nat) (l:List Oper) (i j:Nat) (p v:Value)
    (h:(buildsA P (l.take n) a).map (fun b=>(b.tmps.getD i undef,b.tmps.getD j undef,b.defers))=some (p,v,[]))
    (hw: ∀ b:Act,b.tmps.getD i undef=p→b.tmps.getD j undef=v→b.defers=[]→wpList P ops Q (l.drop n) b W):wpList P ops Q l a W:=by
  obtain ⟨b,hb,he⟩:=Option.map_eq_some_iff.1 h
  simp only [Prod.mk.injEq] at he
  have:=builds_run (P:=P) (ops:=ops) (Q:=Q) (W:=W) (rest:=l.drop n) (l.take n) a b hb (hw b he.1 he.2.1 he.2.2)
  rwa [List.take_append_drop] at this
theorem nums_reps {M:Int→List Value→Prop} (k:IntKind) (h: ∀ x,M x [.int k x]): ∀ (xs:List Int),Reps M 1 xs (nums k xs)
  | []=>Reps.none _ _
  | x::xs=>Reps.one (h x) (nums_reps k h xs)
theorem nums_slice_run (P:Program) (W:World) (t e n:Nat) (k:IntKind) (xs:List Int) (hu:P.underlying t=some (.slice e)) (hsz:(P.info? e).map (·.size)=some 1) (hz:((P.info? e).bind (·.zero)).isSome=true)
    (hlen:xs.length=n) (hpos:0 < n) (hsmall:n≤16777216) :
    (Instr.buildSlice t n ((nums k xs).zipIdx.map fun (x,i)=>(i,x)).toArray).run P W= .ok (.slice (some ⟨W.heap.size,0,none⟩) n n) (W.alloc (.cells (nums k xs).toArray e)):=by
  cases hie:P.info? e with
  | none=>simp [hie] at hsz
  | some ie =>
    simp only [hie,Option.map_some,Option.some.injEq,Option.bind_some] at hsz hz
    obtain ⟨z,hzz⟩:=Option.isSome_iff_exists.1 hz
    refine run_buildSlice W t e n _ _ ie z hu hie hzz (by rw [hsz];omega) (by rw [hsz];omega) ?_
    rw [hsz]
    exact Great.fill_flat _ _ (fun v hv=>by
      unfold nums at hv
      obtain ⟨n,_,rfl⟩:=List.mem_map.1 hv
      rfl) (by simp [nums,hlen])
section
variable {P : Program} {ops : Array Oper} {rest : List Oper} {o : Oper} {a : Act} {Q : Exit → Act → World → Prop} {W : World}
theorem row_event (base e:Nat) (hgd:o.guard=none) {N:Tmp} (hd:o.dst=some N) (t:TypeId) (n:Nat) (k:IntKind) (xs:List Int) (ho:o.op= .buildSlice t n (parts_ (nums k xs))) (hn:xs.length=n)
    (hu:P.underlying t=some (.slice e)) (hsz:(P.info? e).map (·.size)=some 1) (hz:((P.info? e).bind (·.zero)).isSome=true) (hpos:0 < n) (hsmall:n≤16777216)
    {w0:World} (HB:Below base w0 W) (hbase:base≤W.heap.size)
    (h: ∀ v1 w1,(Kd.int k).R e w1 base (fun _=>True) v1 xs→Below base w0 w1→W.grownBy w1 none→(∃ b,v1.ownBlock=some b∧W.heap.size≤b)→wpList P ops Q rest (a.put o.dst v1) w1):wpList P ops Q (o::rest) a W:=by
  have hb:=nums_slice_run P W t e n k xs hu hsz hz hn hpos hsmall
  subst hn
  refine Kd.R_lit (Kd.int k) base e hgd hd (xs:=xs) (inner:=nums k xs) (ok:=fun _=>True) (okp:=fun _=>True) ?_ (nums_reps (M:=(Kd.int k).M W base fun _=>True) k (fun x=>rfl) xs) (fun _ hk=>hk) trivial HB hbase (by omega) h
  have e1:((parts_ (nums k xs)).map fun (i,x)=>(i,a.eval x))=((nums k xs).zipIdx.map fun (x,i)=>(i,x)).toArray:=by
    simp [parts_,Function.comp_def,Act.eval]
  simp only [execOp,ho,Sem.run_bind]
  rw [e1,hb]
  rfl
end
theorem agg_load {P:Program} {ops:Array Oper} {rest:List Oper} {o:Oper} {a:Act} {Q:Exit→Act→World→Prop} {W:World} (hgd:o.guard=none) (t:TypeId) (p:Operand) (ho:o.op= .load t p) (ad:Addr) (hp:a.eval p= .pointer (some ad)) (cs:List Value) (d:TypeDesc)
    (hu:P.underlying t=some d) (hd:(match d with| .struct _| .array _ _=>true|_=>false)=true) (hi:(P.info? t).map (·.size)=some cs.length)
    (h: ∀ j v,cs[j]?=some v→W.cell? (ad.add j)=some v) (hw:wpList P ops Q rest (a.put o.dst (.agg cs.toArray)) W):wpList P ops Q (o::rest) a W:=by
  obtain ⟨i,h1,h2⟩:=Option.map_eq_some_iff.1 hi
  refine Kd.event_run (w1:=W) (v:= .agg cs.toArray) hgd ?_ hw
  have hl:=run_loadCells_list (P:=P) W ad cs h
  cases d <;> simp at hd
  all_goals simp [execOp,ho,hp,Instr.loadAt,Instr.sureAddr,loadVar,isAgg,run_underlying hu,sizeOf,typeInfo,h1,h2,hl]
theorem struct_slice_run (P:Program) (W:World) (t e n s:Nat) (vs:List Value) (hu:P.underlying t=some (.slice e)) (hsz:(P.info? e).map (·.size)=some s) (hz:((P.info? e).bind (·.zero)).isSome=true)
    (hlen:vs.length=n) (hpos:0 < n) (hs:0 < s) (hsmall:n * s≤16777216) (h1: ∀ v ∈ vs,v.cells.size=s) :
    (Instr.buildSlice t n (vs.zipIdx.map fun (x,i)=>(i,x)).toArray).run P W= .ok (.slice (some ⟨W.heap.size,0,none⟩) n n) (W.alloc (.cells (vs.flatMap fun v=>v.cells.toList).toArray e)):=by
  cases hie:P.info? e with
  | none=>simp [hie] at hsz
  | some ie =>
    simp only [hie,Option.map_some,Option.some.injEq,Option.bind_some] at hsz hz
    obtain ⟨z,hzz⟩:=Option.isSome_iff_exists.1 hz
    have hm:0 < n * s:=Nat.mul_pos hpos hs
    refine run_buildSlice W t e n _ _ ie z hu hie hzz (by rw [hsz];omega) (by rw [hsz];omega) ?_
    rw [hsz]
    exact Great.fill_whole hs _ _ h1 (by rw [hlen];simp)
theorem put_eval (b:Act) (N:Tmp) (v:Value) (h:N < b.tmps.size):(b.put (some N) v).eval (.tmp N)=v:=by
  simp [Act.put,Act.eval,h]
def constsOf:List (Nat × Operand)→Option (List (Nat × Value))
  | []=>some []
  | (i,.const v)::r=>(constsOf r).map fun l=>(i,v)::l
  | _=>none
theorem consts_eval (a:Act): ∀ (ps:List (Nat × Operand)) (qs:List (Nat × Value)),constsOf ps=some qs→ps.map (fun (i,x)=>(i,a.eval x))=qs
  | [],qs,h=>by
    obtain rfl:[]=qs:=by simpa [constsOf] using h
    rfl
  | (i,x)::r,qs,h=>by
    cases x <;> simp only [constsOf,reduceCtorEq,Option.map_eq_some_iff] at h
    obtain ⟨l,hl,rfl⟩:=h
    rw [List.map_cons,consts_eval a r l hl]
    rfl
def litsOf (P:Program):Nat→List Oper→Option (List Value)
  | _,[]=>some []
  | i,o::r =>
    match o.guard,o.op,o.dst with
    | none,.build t ps,some N =>
      if N=i then
        match constsOf ps.toList with
        | some qs =>
          match P.built t qs with
          | some cells=>(litsOf P (i+1) r).map fun vs=> .agg cells::vs
          | none=>none
        | none=>none
      else none
    | _,_,_=>none
theorem lits_run {P:Program} {ops:Array Oper} {Q:Exit→Act→World→Prop} {W:World} {rest:List Oper} (sz:Nat): ∀ (l:List Oper) (i:Nat) (vs:List Value) (a:Act),litsOf P i l=some vs→a.tmps.size=sz→i+l.length≤sz →
    (∀ b:Act,b.tmps.size=sz→b.defers=a.defers→(∀ (j:Nat) v,vs[j]?=some v→b.tmps.getD (i+j) undef=v)→(∀ j,j < i→b.tmps.getD j undef=a.tmps.getD j undef)→wpList P ops Q rest b W)→wpList P ops Q (l++rest) a W
  | [],i,vs,a,h,hs,hi,hw=>by
    obtain rfl:[]=vs:=by simpa [litsOf] using h
    exact hw a hs rfl (fun j v hj=>by simp at hj) (fun _ _=>rfl)
  | o::r,i,vs,a,h,hs,hi,hw=>by
    unfold litsOf at h
    split at h
    · rename_i t ps N hg ho hd
      split at h
      · rename_i hN
        have hd:o.dst=some i:=by rw [hd,hN]
        clear hN
        split at h
        · rename_i qs hq
          split at h
          · rename_i cells hc
            obtain ⟨ws,hws,rfl⟩:=Option.map_eq_some_iff.1 h
            simp only [List.length_cons] at hi
            rw [List.cons_append]
            have hpe:(ps.map fun (i,x)=>(i,a.eval x)).toList=qs:=by rw [Array.toList_map,consts_eval a _ _ hq]
            refine wpList_build hg t ps ho ?_ ?_
            · rw [hpe,hc];rfl
            · rw [hpe,hc,hd]
              refine lits_run sz r (i+1) ws _ hws (by simpa [Act.put] using hs) (by omega) (fun b hb1 hb2 hb3 hb4=>hw b hb1 hb2 (fun j v hj=>?_) (fun j hj=>?_))
              · cases j with
                | zero =>
                  obtain rfl:Value.agg cells=v:=by simpa using hj
                  rw [Nat.add_zero,hb4 i (by omega)]
                  simp [Act.put,show i < a.tmps.size by omega]
                | succ j =>
                  have:=hb3 j v (by simpa using hj)
                  rw [show i+(j+1)=i+1+j by omega]
                  exact this
              · rw [hb4 j (by omega)]
                simp [Act.put,show i≠j by omega]
          · cases h
        · cases h
      · cases h
    · cases h
section
variable {P : Program} {ops : Array Oper} {rest : List Oper} {o : Oper} {a : Act} {Q : Exit → Act → World → Prop} {W : World}
theorem builds_slice (n:Nat) (l:List Oper) (hl:l.drop n=o::rest) {α:Type} (d:Kd α) (base e:Nat) (hgd:o.guard=none) {N:Tmp} (hd:o.dst=some N) (t:TypeId) (m:Nat) (parts:Array (Nat × Operand)) (ho:o.op= .buildSlice t m parts) (vs:List Value) (xs:List α) (sz:Nat)
    (hb:litsOf P 1 (l.take n)=some vs) (hsa:a.tmps.size=sz) (hn:1+n≤sz) (hdf:a.defers=[]) (hparts:parts.toList=(List.range m).map fun j=>(j,.tmp (1+j)))
    (hu:P.underlying t=some (.slice e)) (hsz:(P.info? e).map (·.size)=some d.sz) (hz:((P.info? e).bind (·.zero)).isSome=true) (hv:vs.length=m) (hx:xs.length=m) (hpos:0 < m) (hs:0 < d.sz) (hsmall:m * d.sz≤16777216) (h1: ∀ v ∈ vs,v.cells.size=d.sz)
    (hrep:Reps (d.M W base (fun _=>True)) d.sz xs (vs.flatMap fun v=>v.cells.toList)) {w0:World} (HB:Below base w0 W) (hbase:base≤W.heap.size)
    (h: ∀ (b:Act) v1 w1,b.tmps.size=sz→b.defers=[]→d.R e w1 base (fun _=>True) v1 xs→Below base w0 w1→wpList P ops Q rest (b.put (some N) v1) w1):wpList P ops Q l a W:=by
  have hlen:(l.take n).length≤n:=List.length_take_le _ _
  have:=lits_run (P:=P) (ops:=ops) (Q:=Q) (W:=W) (rest:=l.drop n) sz (l.take n) 1 vs a hb hsa (by omega) (fun b e2 e3 hb3 _=>by
    rw [hl]
    have hr:=struct_slice_run P W t e m d.sz vs hu hsz hz hv hpos hs hsmall h1
    refine Kd.R_lit d base e hgd hd (xs:=xs) (inner:=vs.flatMap fun v=>v.cells.toList) (ok:=fun _=>True) (okp:=fun _=>True) ?_ hrep (fun _ hk=>hk) trivial HB hbase (by rw [hx];have:=Nat.le_mul_of_pos_right m hs;omega) (fun v1 w1 hR hB _ _=>by rw [hd];exact h b v1 w1 e2 (e3.trans hdf) hR hB)
    have e4:(parts.map fun (i,x)=>(i,b.eval x))=(vs.zipIdx.map fun (x,i)=>(i,x)).toArray:=by
      apply Array.ext'
      rw [Array.toList_map,hparts,List.map_map]
      apply List.ext_getElem
      · simp [hv]
      · intro k h1 h2
        have hk:k < vs.length:=by simpa using h2
        have:=hb3 k vs[k] (List.getElem?_eq_getElem hk)
        simp [Act.eval] at this ⊢
        exact this
    simp only [execOp,ho,Sem.run_bind]
    rw [e4,hr,hx]
    rfl)
  rwa [List.take_append_drop] at this
end
end Go.Proofs.YteoaegigjlhamaaH
