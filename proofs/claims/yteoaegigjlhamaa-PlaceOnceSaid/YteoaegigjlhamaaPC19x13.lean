/- For the laws of the group C19: the Lean functions that the Go functions compute, and proofs that they do. Written by wip/hprint.py of this repo over the kit's printer; nothing here is trusted: Lean checks it. -/
import Derived.Test.YteoaegigjlhamaaHIns
import Derived.Test.YteoaegigjlhamaaPC19x0
namespace Go.Proofs.Yteoaegigjlhamaa.PC19
open Go.RowKit Go.Proofs.YteoaegigjlhamaaW.PrintWords Go.Proofs.YteoaegigjlhamaaW.PrintLast Go.Proofs.YteoaegigjlhamaaW.PrintMore
attribute [local go_sem] max2_int min2_int max_two min_two max_three min_three max_four min_four
set_option linter.unusedVariables false
set_option linter.unusedSimpArgs false
/-! ### api_Slot_35:function 35:by hand -/
def api_Slot_35.f (l0:List S42) (a1:Int) (l2:List S42):Option (List S42):=if a1=0∧l2.length=1∧l0.length < 1000000 then some (l2++l0) else none
section
open Go.Proofs.YteoaegigjlhamaaH
theorem api_Slot_35.flat:Flat k42 (fun x=>[.int .i64 x.f0,.int .i64 x.f1,.int .i64 x.f2,.int .i64 x.f3,.int .i64 x.f4,.int .i64 x.f5]) :=
 ⟨fun w x cs=>⟨k42_open,fun h=>h▸k42_mk w x⟩,fun w base ok x cs=>⟨k42_openM,fun h=>h▸k42_mkM w base ok x⟩,by decide⟩
theorem api_Slot_35.cut (j:Nat) (n c:Nat) (g:Nat) (hj:j≤n) (hc:c≠j) (W:World):(Instr.slice 27 (.slice (some ⟨g,0,none⟩) n c) (some (.int .i64 (j:Int))) none none).run Try.prog W= .ok (.slice (some ⟨g,j * 6,none⟩) (n - j) (c - j)) W:=by
 obtain ⟨i0,hi0,_,hsz,_⟩:=info_parts info42
 have h1:=cut_from (P:=Try.prog) 27 42 .i64 Try.underlying27 hi0 6 hsz (some ⟨g,0,none⟩) n c (j:Int) (by omega) (by omega) W
 rwa [show ((j:Int)).toNat=j by omega,if_neg hc,Option.map_some,add_plain] at h1
theorem api_Slot_35.cutA (v x:Value) (lo hi:Option Value) (W:World) (h:(Instr.slice 27 v lo hi none).run Try.prog W= .ok x W):(Instr.sliceAt 27 v lo hi none).run Try.prog W= .ok x W :=
 (run_sliceAt_slice W 27 _ _ _ _ (by rw [show (Try.prog).elem 27=42 from by kernel_rfl];exact Try.underlying27)).trans h
theorem api_Slot_35.upto (j:Int) (n c:Nat) (A:Option Addr) (h0:0≤j) (hc:j≤c) (W:World):(Instr.slice 27 (.slice A n c) none (some (.int .i64 j)) none).run Try.prog W= .ok (.slice A j.toNat c) W:=by
 obtain ⟨i0,hi0,_,hsz,_⟩:=info_parts info42
 have hel:(Try.prog).elem 27=42:=by kernel_rfl
 have ha:(A.map fun x=>x.add 0)=A:=by cases A <;> simp [Addr.add]
 rw [run_slice_h W 27 A n c (by rw [hel];exact Try.underlying27) .i64 j h0 hc,hel]
 simp [sizeOf,typeInfo,hi0,sliced,Result.andThen,ha]
theorem api_Slot_35.cut_run {o:Oper} {a:Act} {W:World} (t:TypeId) (x:Operand) (lo hi:Option Operand) (ho:o.op= .slice t x lo hi none) (u:Value) (hu:a.eval x=u) (lo' hi':Option Value) (hlo:lo.map a.eval=lo') (hhi:hi.map a.eval=hi') {v:Value}
  (hr: ∀ W:World,(Instr.sliceAt t u lo' hi' none).run Try.prog W= .ok v W):(execOp a.eval o).run Try.prog W= .ok (.value v) W:=by
 unfold execOp
 rw [ho]
 simp only [hu,hlo,hhi,Option.map_none]
 simp [hr,Result.andThen]
theorem api_Slot_35.eql_run {o:Oper} {a:Act} {W:World} {x y:Operand} {m n:Int} {e:TypeId} (hne: ¬ m=n) (ho:o.op= .binOp .eql 3 x y e) (hx:a.eval x= .int .i64 m) (hy:a.eval y= .int .i64 n):(execOp a.eval o).run Try.prog W= .ok (.value (.bool false)) W:=by
 unfold execOp
 rw [ho]
 simp only [hx,hy]
 go_simp
theorem api_Slot_35.gtr_run {o:Oper} {a:Act} {W:World} {x y:Operand} {m n:Int} {e:TypeId} {b:Bool} (hb:decide (m > n)=b) (ho:o.op= .binOp .gtr 3 x y e) (hx:a.eval x= .int .i64 m) (hy:a.eval y= .int .i64 n):(execOp a.eval o).run Try.prog W= .ok (.value (.bool b)) W:=by
 subst hb
 unfold execOp
 rw [ho]
 simp only [hx,hy]
 go_simp
theorem api_Slot_35.sub_run {o:Oper} {a:Act} {W:World} {x y:Operand} {m n:Int} {e:TypeId} {r:Int} (hb:wrap64 (m - n)=r) (ho:o.op= .binOp .sub 3 x y e) (hx:a.eval x= .int .i64 m) (hy:a.eval y= .int .i64 n):(execOp a.eval o).run Try.prog W= .ok (.value (.int .i64 r)) W:=by
 subst hb
 unfold execOp
 rw [ho]
 simp only [hx,hy]
 go_simp
 exact i64_w _
theorem api_Slot_35.apart (w:World) (a b:Addr) (la ca lb cb:Nat) (hne:a.block≠b.block) (tA tB:TypeId) (kA kB:Nat) (hsa:w.shape? a.block=some (tA,kA)) (hsb:w.shape? b.block=some (tB,kB)) (hkB:kB≠0) (hfa:w.frozen? a=false) (hfe:w.frozen? {block:=a.block,off:=kA}=false) :
  (callFunc 53 #[.slice (some a) la ca,.slice (some b) lb cb]).run Try.prog w= .ok (.value (.bool false)) w:=by
 have hsz: ∀ w:World,(Go.sizeOf 42).run Try.prog w= .ok 6 w:=by
  obtain ⟨i0,hi0,_,hsz,_⟩:=info_parts info42
  exact fun w=>by simp [Go.sizeOf,typeInfo,hi0,hsz]
 have h1:=Lib.run_overlaps_apart (P:=Try.prog) w 27 4 42 Try.underlying27 6 hsz a b la ca lb cb hne tA tB kA kB hsa hsb hkB hfa hfe
 rw [run_callFunc_extern Try.func53 (by kernel_rfl) (by kernel_rfl) (by kernel_rfl) (e:=Extern.SlicesOverlaps.overlaps #[27,27] #[4]) (by kernel_rfl),h1]
 rfl
theorem api_Slot_35.over_run {o:Oper} {a:Act} {W:World} (x y:Operand) (u v:Value) (ho:o.op= .call {callee:= .value (.func 53),args:= #[x,y],argTypes:= #[27,27]}) (hx:a.eval x=u) (hy:a.eval y=v) {b:Value}
  (hr:(callFunc 53 #[u,v]).run Try.prog W= .ok (.value b) W):(execOp a.eval o).run Try.prog W= .ok (.value b) W:=by
 unfold execOp
 simp only [ho,resolve,invoke,Sem.run_bind,Sem.run_pure,Result.andThen_ok,List.map_toArray,List.map_cons,List.map_nil,hx,hy]
 simp [Act.eval,Deferred.ofValue,hr,Result.andThen]
set_option maxHeartbeats 4000000 in
set_option maxRecDepth 100000 in
theorem api_Slot_35.calls (P0_:Nat→Prop) (u9000_:Value) (l0:List S42) (a1:Int) (P2_:Nat→Prop) (u9001_:Value) (l2:List S42) (r:List S42) (w0 w:World) (hB:Below w0.heap.size w0 w) (ho0:Kd.R k42 42 w w0.heap.size P0_ u9000_ l0) (hp0_2: ∀ k_,P0_ k_→ ¬ P2_ k_) (ho2:Kd.R k42 42 w w0.heap.size P2_ u9001_ l2) (hp2_0: ∀ k_,P2_ k_→ ¬ P0_ k_) (h:api_Slot_35.f l0 a1 l2=some r) :
  Calls Try.prog 35 #[u9000_,.int .i64 a1,u9001_] w fun e w'=> ∃ v0_:Value,e= .returned v0_∧Kd.R k42 42 w' w0.heap.size (fun k_=>((P0_ k_∨P2_ k_)∨w.heap.size≤k_)) v0_ r∧Below w0.heap.size w0 w'∧Kept w w' (fun k_=>P0_ k_∨P2_ k_):=by
 unfold api_Slot_35.f at h
 split at h
 rotate_left
 ·
  cases h
 rename_i hl
 obtain rfl:=Option.some.inj h
 obtain ⟨rfl,h2,hlt⟩:=hl
 clear h
 obtain ⟨x,rfl⟩: ∃ x,l2=[x]:=by
  cases l2 with
  | nil=>cases h2
  | cons x r=>cases r with
   | nil=>exact ⟨x,rfl⟩
   | cons y r=>simp at h2
 clear h2
 obtain ⟨g2,c2,hu2,hg2,hg2',cells2,hcell2⟩:=Kd.R_form ho2 (Nat.one_pos)
 rw [show [x].length=1 from rfl] at hu2
 subst hu2
 have hP2:P2_ g2:=ho2.1 g2 (by simp [Value.ownBlock])
 have hV:Kd.C k42 w (some ⟨g2,0,none⟩) 1 [x]:=(Kd.R_reads' ho2).2.2
 have hss:(Try.prog.info? 42).map (·.size)=some 6:=by kernel_rfl
 have HB:=Aside0.mk hB
 have hw1:wrap64 ((0:Int)+1)=1:=by decide +kernel
 have hw6:IntKind.i64.wrap 1=1:=by decide +kernel
 have hw7:wrap64 1=1:=by decide +kernel
 rcases Nat.eq_zero_or_pos l0.length with hz|hp
 ·
  obtain rfl:l0=[]:=List.eq_nil_of_length_eq_zero hz
  obtain ⟨A0,c0,rfl⟩:=Kd.R_slice ho0
  rw [show ([]:List S42).length=0 from rfl] at ho0 ⊢
  obtain ⟨vv,hq0⟩: ∃ vv,∀ W:World,(Instr.slice 27 (.slice A0 0 c0) (some (.int .i64 0)) none none).run Try.prog W= .ok vv W:=by
   obtain ⟨i0,hi0,_,hsz,_⟩:=info_parts info42
   exact ⟨_,cut_from (P:=Try.prog) 27 42 .i64 Try.underlying27 hi0 6 hsz A0 0 c0 0 (by decide) (by decide)⟩
  have HO:=Aside0.mk (Kd.R_mono ho0 (ok':=fun k_=>((P0_ k_∨P2_ k_)∨w.heap.size≤k_)) (fun k hk=> .inl (.inl hk)))
  have HP:=Aside0.mk ho0.1
  have HV:=Aside0.mk hV
  clear ho0 ho2 hV hB hp0_2 hp2_0 hcell2 hlt
  go_enter Try.func35,Try.ntmps35
  go_wp2_with (first|((with_reducible refine gate_builtin (b:= .append) (xs:= #[.tmp 23,.tmp 24]) rfl ?_);at_builtin;refine Kd.R_append_rows k42 (w0:=w0) w0.heap.size rfl (.tmp 23) (.tmp 24) 27 42 (.agg #[(.int .i64 0),(.int .i64 0),(.int .i64 0),(.int .i64 0),(.int .i64 0),(.int .i64 0)]) 48 rfl Try.underlying27 info42 rfl (by decide) (by decide) (.slice A0 0 c0) [] [x] (some ⟨g2,0,none⟩) 1 c2 (fun k_=>((P0_ k_∨P2_ k_)∨w.heap.size≤k_)) (fun _=>False) rfl rfl HO.out HV.out (fun x cs hx=>by obtain rfl:=k42_open hx;exact k42_mkM _ _ _ _) (fun _ h=>h.elim) (fun _ hk=> .inr hk) HB.out HB.out.size (by decide) ?_;intro v_ w1 ho hb1 hg1 hat;have n0_:=Aside0.mk ho;have n1_:=Aside0.mk hb1;have n2_:=Aside0.mk hg1;clear ho hb1 hg1 hat))
  go_ret
  exact ⟨_,rfl,n0_.out,n1_.out,Kept.of_grown n2_.out (Kept.refl _ _) (fun k hk=> .inl (.inl (HP.out k hk)))⟩
 ·
  clear hw1 hw6 hw7
  obtain ⟨g,cap,hu0,hg,hg',cells,hcell⟩:=Kd.R_form ho0 hp
  subst hu0
  have hP0:P0_ g:=ho0.1 g (by simp [Value.ownBlock])
  have hne:g2≠g:=fun e=>hp0_2 g hP0 (e▸hP2)
  have hnc:l0.length≤cap:=(Kd.R_reads' ho0).2.1
  obtain ⟨n,hn⟩: ∃ n,n=l0.length:=⟨_,rfl⟩
  rw [← hn] at ho0 hp hlt hnc ⊢
  have hC0:=(Kd.R_reads' ho0).2.2
  rw [← hn] at hC0
  have hz2: ¬ ((0:Int)=(n:Int)):=by omega
  obtain ⟨nn,hnn⟩: ∃ nn:Int,nn=((n+1:Nat):Int):=⟨_,rfl⟩
  have hw2:wrap64 ((n:Int)+1)=nn:=by rw [hnn];unfold wrap64;omega
  have hw3:IntKind.i64.wrap ((n:Int)+1)=nn:=hw2▸(by rw [IntKind.wrap_i64,hw2,hnn];omega)
  have HW3:=Aside0.mk hw3
  clear hw3 hw2
  have hq0: ∀ W:World,(Instr.slice 27 (.slice (some ⟨g,0,none⟩) n cap) (some (.int .i64 0)) none none).run Try.prog W= .ok (.slice (some ⟨g,0,none⟩) n cap) W:=fun W=>by
   have:=api_Slot_35.cut 0 n cap g (by omega) (by omega) W
   rwa [Nat.zero_mul,Nat.sub_zero,Nat.sub_zero] at this
  have hA0: ∀ W:World,(Instr.sliceAt 27 (.slice (some ⟨g,0,none⟩) n cap) (some (.int .i64 0)) none none).run Try.prog W= .ok (.slice (some ⟨g,0,none⟩) n cap) W:=fun W=>api_Slot_35.cutA _ _ _ _ W (hq0 W)
  by_cases hc:cap < n+1
  ·
   have hc1:nn > (cap:Int):=by rw [hnn];omega
   have hc2:(cap:Int) < nn:=hc1
   have HW5:Aside0 (wrap64 (nn - 0)=nn):=Aside0.mk (by rw [Int.sub_zero,hnn];unfold wrap64;omega)
   obtain ⟨G,W1,W2,W3,hG,r1,r2,r3,hR,hb⟩:=api_Slot_35.flat.grow (P:=Try.prog) w 27 3 42 27 3 3 Try.underlying27 Try.underlying3 (.agg #[(.int .i64 0),(.int .i64 0),(.int .i64 0),(.int .i64 0),(.int .i64 0),(.int .i64 0)]) 48 info42 rfl (by decide) g n cap g2 c2 x l0 hC0 hp hc hlt hV
   rw [← hnn] at r1
   have hq1:=fun W=>api_Slot_35.upto 0 n cap (some ⟨g,0,none⟩) (by decide) (by omega) W
   rw [show ((0:Int)).toNat=0 from rfl] at hq1
   obtain ⟨h,hh⟩: ∃ h,h=w.heap.size:=⟨_,rfl⟩
   obtain ⟨n1,hn1⟩: ∃ n1,n1=n+1:=⟨_,rfl⟩
   rw [← hh,← hn1] at r1 r2 hR
   rw [← hh] at r3
   have hq2: ∀ W:World,(Instr.slice 27 (.slice (some ⟨h,0,none⟩) n1 G) (some (.int .i64 0)) none none).run Try.prog W= .ok (.slice (some ⟨h,0,none⟩) n1 G) W:=fun W=>by
    have:=api_Slot_35.cut 0 n1 G h (by omega) (by omega) W
    rwa [Nat.zero_mul,Nat.sub_zero,Nat.sub_zero] at this
   have hq3: ∀ W:World,(Instr.sliceAt 27 (.slice (some ⟨h,0,none⟩) n1 G) (some (.int .i64 1)) none none).run Try.prog W= .ok (.slice (some ⟨h,6,none⟩) n (G - 1)) W:=fun W=>by
    have:=api_Slot_35.cutA _ _ _ _ W (api_Slot_35.cut 1 n1 G h (by omega) (by omega) W)
    rwa [Nat.one_mul,show n1 - 1=n by omega] at this
   have hq4: ∀ W:World,(Instr.sliceAt 27 (.slice (some ⟨g,0,none⟩) n cap) (some (.int .i64 0)) none none).run Try.prog W= .ok (.slice (some ⟨g,0,none⟩) n cap) W:=fun W=>api_Slot_35.cutA _ _ _ _ W (hq0 W)
   have r3':(Builtin.copy_ #[27,27] 3 #[.slice (some ⟨h,6,none⟩) n (G - 1),.slice (some ⟨g,0,none⟩) n cap]).run Try.prog W2.drew= .ok (.int .i64 (n:Int)) W3:=r3
   have hA1: ∀ W:World,(Instr.sliceAt 27 (.slice (some ⟨g,0,none⟩) n cap) none (some (.int .i64 0)) none).run Try.prog W= .ok (.slice (some ⟨g,0,none⟩) 0 cap) W:=fun W=>api_Slot_35.cutA _ _ _ _ W (hq1 W)
   have hA2: ∀ W:World,(Instr.sliceAt 27 (.slice (some ⟨h,0,none⟩) n1 G) (some (.int .i64 0)) none none).run Try.prog W= .ok (.slice (some ⟨h,0,none⟩) n1 G) W:=fun W=>api_Slot_35.cutA _ _ _ _ W (hq2 W)
   have hc0:decide (nn > (cap:Int))=true:=decide_eq_true hc1
   have HRR:=Aside0.mk hR
   have HBB:=Aside0.mk hb
   have HH:=Aside0.mk hh
   clear hR hb ho0 ho2 hV hC0 hB hp0_2 hp2_0 hcell2 hcell hlt hP0 hP2 hne hnc hc hG hh hg hg' hg2 hg2' r3 hn hnn hn1
   have hw3:=HW3.out
   have hw5:=HW5.out
   go_enter Try.func35,Try.ntmps35
   refine wp_seq ?_
   refine wp_region_list ?_
   refine Kd.event_run (w1:=w) (v:= .slice none 0 0) rfl (by kernel_rfl) ?_
   simp only [Act.put,List.setIfInBounds_toArray,List.set_cons_succ,List.set_cons_zero]
   refine wpList_nil ?_
   refine wp_seq ?_
   refine wp_region_list ?_
   refine Kd.event_run (w1:=w) (v:= .slice (some ⟨g,0,none⟩) n cap) rfl (by kernel_rfl) ?_
   simp only [Act.put,List.setIfInBounds_toArray,List.set_cons_succ,List.set_cons_zero]
   refine Kd.event_run (w1:=w) (v:= .int .i64 0) rfl (by kernel_rfl) ?_
   simp only [Act.put,List.setIfInBounds_toArray,List.set_cons_succ,List.set_cons_zero]
   refine Kd.event_run (w1:=w) (v:= .slice (some ⟨g,0,none⟩) n cap) rfl (api_Slot_35.cut_run 27 (.tmp 10) (some (.tmp 11)) none rfl (.slice (some ⟨g,0,none⟩) n cap) (by kernel_rfl) (some (.int .i64 0)) none (by kernel_rfl) (by kernel_rfl) hA0) ?_
   simp only [Act.put,List.setIfInBounds_toArray,List.set_cons_succ,List.set_cons_zero]
   refine wpList_nil ?_
   refine wp_seq ?_
   refine wp_region_list ?_
   refine Kd.event_run (w1:=w) (v:= .slice (some ⟨g2,0,none⟩) 1 c2) rfl (by kernel_rfl) ?_
   simp only [Act.put,List.setIfInBounds_toArray,List.set_cons_succ,List.set_cons_zero]
   refine Kd.event_run (w1:=w) (v:= .int .i64 1) rfl (by kernel_rfl) ?_
   simp only [Act.put,List.setIfInBounds_toArray,List.set_cons_succ,List.set_cons_zero]
   refine Kd.event_run (w1:=w) (v:= .int .i64 1) rfl (by kernel_rfl) ?_
   simp only [Act.put,List.setIfInBounds_toArray,List.set_cons_succ,List.set_cons_zero]
   refine wpList_nil ?_
   refine wp_seq ?_
   refine wp_seq ?_
   refine wp_region_list ?_
   refine Kd.event_run (w1:=w) (v:= .int .i64 1) rfl (by kernel_rfl) ?_
   simp only [Act.put,List.setIfInBounds_toArray,List.set_cons_succ,List.set_cons_zero]
   refine Kd.event_run (w1:=w) (v:= .bool false) rfl (by kernel_rfl) ?_
   simp only [Act.put,List.setIfInBounds_toArray,List.set_cons_succ,List.set_cons_zero]
   refine wpList_nil ?_
   refine wp_cond_false (by kernel_rfl) ?_
   refine wp_skip ?_
   refine wp_seq ?_
   refine wp_region_list ?_
   refine Kd.event_run (w1:=w) (v:= .slice (some ⟨g,0,none⟩) n cap) rfl (by kernel_rfl) ?_
   simp only [Act.put,List.setIfInBounds_toArray,List.set_cons_succ,List.set_cons_zero]
   refine Kd.event_run (w1:=w) (v:= .int .i64 (n:Int)) rfl (by kernel_rfl) ?_
   simp only [Act.put,List.setIfInBounds_toArray,List.set_cons_succ,List.set_cons_zero]
   refine Kd.event_run (w1:=w) (v:= .int .i64 (n:Int)) rfl (by kernel_rfl) ?_
   simp only [Act.put,List.setIfInBounds_toArray,List.set_cons_succ,List.set_cons_zero]
   refine wpList_nil ?_
   refine wp_seq ?_
   refine wp_seq ?_
   refine wp_region_list ?_
   refine Kd.event_run (w1:=w) (v:= .int .i64 0) rfl (by kernel_rfl) ?_
   simp only [Act.put,List.setIfInBounds_toArray,List.set_cons_succ,List.set_cons_zero]
   refine Kd.event_run (w1:=w) (v:= .int .i64 (n:Int)) rfl (by kernel_rfl) ?_
   simp only [Act.put,List.setIfInBounds_toArray,List.set_cons_succ,List.set_cons_zero]
   refine Kd.event_run (w1:=w) (v:= .bool false) rfl (api_Slot_35.eql_run hz2 rfl (by kernel_rfl) (by kernel_rfl)) ?_
   simp only [Act.put,List.setIfInBounds_toArray,List.set_cons_succ,List.set_cons_zero]
   refine wpList_nil ?_
   refine wp_cond_false (by kernel_rfl) ?_
   refine wp_skip ?_
   refine wp_seq ?_
   refine wp_seq ?_
   refine wp_region_list ?_
   refine Kd.event_run (w1:=w) (v:= .int .i64 (n:Int)) rfl (by kernel_rfl) ?_
   simp only [Act.put,List.setIfInBounds_toArray,List.set_cons_succ,List.set_cons_zero]
   refine Kd.event_run (w1:=w) (v:= .int .i64 1) rfl (by kernel_rfl) ?_
   simp only [Act.put,List.setIfInBounds_toArray,List.set_cons_succ,List.set_cons_zero]
   refine Kd.event_run (w1:=w) (v:= .int .i64 nn) rfl (by rw [← hw3];kernel_rfl) ?_
   simp only [Act.put,List.setIfInBounds_toArray,List.set_cons_succ,List.set_cons_zero]
   refine Kd.event_run (w1:=w) (v:= .slice (some ⟨g,0,none⟩) n cap) rfl (by kernel_rfl) ?_
   simp only [Act.put,List.setIfInBounds_toArray,List.set_cons_succ,List.set_cons_zero]
   refine Kd.event_run (w1:=w) (v:= .int .i64 (cap:Int)) rfl (by kernel_rfl) ?_
   simp only [Act.put,List.setIfInBounds_toArray,List.set_cons_succ,List.set_cons_zero]
   refine Kd.event_run (w1:=w) (v:= .bool true) rfl (api_Slot_35.gtr_run hc0 rfl (by kernel_rfl) (by kernel_rfl)) ?_
   simp only [Act.put,List.setIfInBounds_toArray,List.set_cons_succ,List.set_cons_zero]
   refine wpList_nil ?_
   refine wp_cond_true (by kernel_rfl) ?_
   refine wp_seq ?_
   refine wp_region_list ?_
   refine Kd.event_run (w1:=w) (v:= .slice (some ⟨g,0,none⟩) n cap) rfl (by kernel_rfl) ?_
   simp only [Act.put,List.setIfInBounds_toArray,List.set_cons_succ,List.set_cons_zero]
   refine Kd.event_run (w1:=w) (v:= .int .i64 0) rfl (by kernel_rfl) ?_
   simp only [Act.put,List.setIfInBounds_toArray,List.set_cons_succ,List.set_cons_zero]
   refine Kd.event_run (w1:=w) (v:= .slice (some ⟨g,0,none⟩) 0 cap) rfl (api_Slot_35.cut_run 27 (.tmp 32) none (some (.tmp 33)) rfl (.slice (some ⟨g,0,none⟩) n cap) (by kernel_rfl) none (some (.int .i64 0)) (by kernel_rfl) (by kernel_rfl) hA1) ?_
   simp only [Act.put,List.setIfInBounds_toArray,List.set_cons_succ,List.set_cons_zero]
   refine Kd.event_run (w1:=w) (v:= .int .i64 (n:Int)) rfl (by kernel_rfl) ?_
   simp only [Act.put,List.setIfInBounds_toArray,List.set_cons_succ,List.set_cons_zero]
   refine Kd.event_run (w1:=w) (v:= .int .i64 1) rfl (by kernel_rfl) ?_
   simp only [Act.put,List.setIfInBounds_toArray,List.set_cons_succ,List.set_cons_zero]
   refine Kd.event_run (w1:=w) (v:= .int .i64 nn) rfl (by rw [← hw3];kernel_rfl) ?_
   simp only [Act.put,List.setIfInBounds_toArray,List.set_cons_succ,List.set_cons_zero]
   refine Kd.event_run (w1:=w) (v:= .int .i64 0) rfl (by kernel_rfl) ?_
   simp only [Act.put,List.setIfInBounds_toArray,List.set_cons_succ,List.set_cons_zero]
   refine Kd.event_run (w1:=w) (v:= .int .i64 nn) rfl (api_Slot_35.sub_run hw5 rfl (by kernel_rfl) (by kernel_rfl)) ?_
   simp only [Act.put,List.setIfInBounds_toArray,List.set_cons_succ,List.set_cons_zero]
   refine append_event rfl (.tmp 34) (.tmp 39) 27 3 rfl (.slice (some ⟨g,0,none⟩) 0 cap) (.int .i64 nn) (by kernel_rfl) (by kernel_rfl) r1 ?_
   simp only [Act.put,List.setIfInBounds_toArray,List.set_cons_succ,List.set_cons_zero]
   refine Kd.event_run (w1:=W1) (v:= .slice (some ⟨h,0,none⟩) n1 G) rfl (by kernel_rfl) ?_
   simp only [Act.put,List.setIfInBounds_toArray,List.set_cons_succ,List.set_cons_zero]
   refine wpList_nil ?_
   refine wp_seq ?_
   refine wp_region_list ?_
   refine Kd.event_run (w1:=W1) (v:= .slice (some ⟨h,0,none⟩) n1 G) rfl (by kernel_rfl) ?_
   simp only [Act.put,List.setIfInBounds_toArray,List.set_cons_succ,List.set_cons_zero]
   refine Kd.event_run (w1:=W1) (v:= .int .i64 0) rfl (by kernel_rfl) ?_
   simp only [Act.put,List.setIfInBounds_toArray,List.set_cons_succ,List.set_cons_zero]
   refine Kd.event_run (w1:=W1) (v:= .slice (some ⟨h,0,none⟩) n1 G) rfl (api_Slot_35.cut_run 27 (.tmp 41) (some (.tmp 42)) none rfl (.slice (some ⟨h,0,none⟩) n1 G) (by kernel_rfl) (some (.int .i64 0)) none (by kernel_rfl) (by kernel_rfl) hA2) ?_
   simp only [Act.put,List.setIfInBounds_toArray,List.set_cons_succ,List.set_cons_zero]
   refine Kd.event_run (w1:=W1) (v:= .slice (some ⟨g2,0,none⟩) 1 c2) rfl (by kernel_rfl) ?_
   simp only [Act.put,List.setIfInBounds_toArray,List.set_cons_succ,List.set_cons_zero]
   refine copy_event rfl (.tmp 43) (.tmp 44) 27 27 rfl (.slice (some ⟨h,0,none⟩) n1 G) (.slice (some ⟨g2,0,none⟩) 1 c2) (by kernel_rfl) (by kernel_rfl) r2 ?_
   simp only [Act.put,List.setIfInBounds_toArray,List.set_cons_succ,List.set_cons_zero]
   refine wpList_nil ?_
   refine wp_seq ?_
   refine start_ (n:=9) (S:=fun w'=>True) (ds:=[]) #[false,false,false,false,false,false,false,false,false] (by kernel_rfl) rfl rfl trivial (fun hHeld=>?_)
   refine pure_ (i:=0) (N:=some 46) (v:= .slice (some ⟨h,0,none⟩) n1 G) #[true,false,false,false,false,false,false,false,false] rfl rfl (by kernel_rfl) (fun _ _ _ h=>h) (Or.inl ⟨by rfl,fun w'=>by kernel_rfl⟩) rfl ?_
   simp only [Act.put,List.setIfInBounds_toArray,List.set_cons_succ,List.set_cons_zero]
   refine pure_ (i:=1) (N:=some 47) (v:= .int .i64 0) #[true,true,false,false,false,false,false,false,false] rfl rfl (by kernel_rfl) (fun _ _ _ h=>h) (Or.inl ⟨by rfl,fun w'=>by kernel_rfl⟩) rfl ?_
   simp only [Act.put,List.setIfInBounds_toArray,List.set_cons_succ,List.set_cons_zero]
   refine pure_ (i:=2) (N:=some 48) (v:= .int .i64 1) #[true,true,true,false,false,false,false,false,false] rfl rfl (by kernel_rfl) (fun _ _ _ h=>h) (Or.inl ⟨by rfl,fun w'=>by kernel_rfl⟩) rfl ?_
   simp only [Act.put,List.setIfInBounds_toArray,List.set_cons_succ,List.set_cons_zero]
   refine pure_ (i:=3) (N:=some 49) (v:= .int .i64 1) #[true,true,true,true,false,false,false,false,false] rfl rfl (by kernel_rfl) (fun _ _ _ h=>h) (Or.inl ⟨by rfl,fun w'=>by kernel_rfl⟩) rfl ?_
   simp only [Act.put,List.setIfInBounds_toArray,List.set_cons_succ,List.set_cons_zero]
   refine pure_ (i:=4) (N:=some 50) (v:= .slice (some ⟨h,6,none⟩) n (G - 1)) #[true,true,true,true,true,false,false,false,false] rfl rfl (by kernel_rfl) (fun _ _ _ h=>h) (Or.inl ⟨by rfl,fun w'=>api_Slot_35.cut_run 27 (.tmp 46) (some (.tmp 49)) none rfl (.slice (some ⟨h,0,none⟩) n1 G) (by kernel_rfl) (some (.int .i64 1)) none (by kernel_rfl) (by kernel_rfl) hq3⟩) rfl ?_
   simp only [Act.put,List.setIfInBounds_toArray,List.set_cons_succ,List.set_cons_zero]
   refine pure_ (i:=5) (N:=some 51) (v:= .slice (some ⟨g,0,none⟩) n cap) #[true,true,true,true,true,true,false,false,false] rfl rfl (by kernel_rfl) (fun _ _ _ h=>h) (Or.inl ⟨by rfl,fun w'=>by kernel_rfl⟩) rfl ?_
   simp only [Act.put,List.setIfInBounds_toArray,List.set_cons_succ,List.set_cons_zero]
   refine pure_ (i:=6) (N:=some 52) (v:= .int .i64 0) #[true,true,true,true,true,true,true,false,false] rfl rfl (by kernel_rfl) (fun _ _ _ h=>h) (Or.inl ⟨by rfl,fun w'=>by kernel_rfl⟩) rfl ?_
   simp only [Act.put,List.setIfInBounds_toArray,List.set_cons_succ,List.set_cons_zero]
   refine pure_ (i:=7) (N:=some 53) (v:= .slice (some ⟨g,0,none⟩) n cap) #[true,true,true,true,true,true,true,true,false] rfl rfl (by kernel_rfl) (fun _ _ _ h=>h) (Or.inl ⟨by rfl,fun w'=>api_Slot_35.cut_run 27 (.tmp 51) (some (.tmp 52)) none rfl (.slice (some ⟨g,0,none⟩) n cap) (by kernel_rfl) (some (.int .i64 0)) none (by kernel_rfl) (by kernel_rfl) hA0⟩) rfl ?_
   simp only [Act.put,List.setIfInBounds_toArray,List.set_cons_succ,List.set_cons_zero]
   refine one_ (i:=8) (N:=some 54) #[true,true,true,true,true,true,true,true,true] rfl rfl (by kernel_rfl) (by decide) (fun K hK=>?_)
   refine copy_step rfl (.tmp 50) (.tmp 53) 27 27 rfl (.slice (some ⟨h,6,none⟩) n (G - 1)) (.slice (some ⟨g,0,none⟩) n cap) (by kernel_rfl) (by kernel_rfl) r3' ?_
   refine hK.out _ _ trivial (fun hHeld=>?_)
   clear hK K
   refine norm_ (a':=?_) ?_ ?_
   rotate_left
   ·
    show Act.put _ (some 54) _=_
    simp only [Act.put,List.setIfInBounds_toArray,List.set_cons_succ,List.set_cons_zero]
    rfl
   refine done_ (by kernel_rfl) ?_
   refine wp_seq ?_
   refine wp_region_list ?_
   refine Kd.event_run (w1:=W3) (v:= .slice (some ⟨h,0,none⟩) n1 G) rfl (by kernel_rfl) ?_
   simp only [Act.put,List.setIfInBounds_toArray,List.set_cons_succ,List.set_cons_zero]
   refine Kd.event_run (w1:=W3) (v:= .slice (some ⟨h,0,none⟩) n1 G) rfl (by kernel_rfl) ?_
   simp only [Act.put,List.setIfInBounds_toArray,List.set_cons_succ,List.set_cons_zero]
   refine wpList_nil ?_
   refine wp_ret ?_
   go_ret
   exact ⟨_,rfl,Kd.R_lower (Kd.R_mono HRR.out (fun k hk=> .inr (HH.out▸hk))) (HH.out▸HB.out.size),below_weaken HB.out HB.out.size HBB.out,Kept.of_below HBB.out _⟩
  ·
   have hc1: ¬ nn > (cap:Int):=by rw [hnn];omega
   have hc2: ¬ (cap:Int) < nn:=hc1
   obtain ⟨W1,W2,r1,r2,hR,hgr⟩:=api_Slot_35.flat.room (P:=Try.prog) w 27 42 3 3 Try.underlying27 hss g2 c2 x l0 ho0 hp (by omega) hne hV
   obtain ⟨n1,hn1⟩: ∃ n1,n1=n+1:=⟨_,rfl⟩
   rw [← hn1] at r1 r2 hR
   have hq1: ∀ W:World,(Instr.slice 27 (.slice (some ⟨g,0,none⟩) n cap) none (some (.int .i64 nn)) none).run Try.prog W= .ok (.slice (some ⟨g,0,none⟩) n1 cap) W:=fun W=>by
    have:=api_Slot_35.upto nn n cap (some ⟨g,0,none⟩) (by omega) (by omega) W
    rwa [show nn.toNat=n1 by omega] at this
   have hq2: ∀ W:World,(Instr.slice 27 (.slice (some ⟨g,0,none⟩) n1 cap) (some (.int .i64 1)) none none).run Try.prog W= .ok (.slice (some ⟨g,6,none⟩) n (cap - 1)) W:=fun W=>by
    have:=api_Slot_35.cut 1 n1 cap g (by omega) (by omega) W
    rwa [Nat.one_mul,show n1 - 1=n by omega] at this
   have hq3: ∀ W:World,(Instr.sliceAt 27 (.slice (some ⟨g,0,none⟩) n1 cap) (some (.int .i64 1)) none none).run Try.prog W= .ok (.slice (some ⟨g,6,none⟩) n (cap - 1)) W:=fun W=>api_Slot_35.cutA _ _ _ _ W (hq2 W)
   have hq5: ∀ W:World,(Instr.slice 27 (.slice (some ⟨g,0,none⟩) n1 cap) (some (.int .i64 0)) none none).run Try.prog W= .ok (.slice (some ⟨g,0,none⟩) n1 cap) W:=fun W=>by
    have:=api_Slot_35.cut 0 n1 cap g (by omega) (by omega) W
    rwa [Nat.zero_mul,Nat.sub_zero,Nat.sub_zero] at this
   have hq4: ∀ W:World,(Instr.sliceAt 27 (.slice (some ⟨g,0,none⟩) n1 cap) (some (.int .i64 0)) none none).run Try.prog W= .ok (.slice (some ⟨g,0,none⟩) n1 cap) W:=fun W=>api_Slot_35.cutA _ _ _ _ W (hq5 W)
   have r1':(Builtin.copy_ #[27,27] 3 #[.slice (some ⟨g,6,none⟩) n (cap - 1),.slice (some ⟨g,0,none⟩) n1 cap]).run Try.prog w.drew= .ok (.int .i64 (n:Int)) W1:=r1
   have hsz: ∀ w:World,(Go.sizeOf 42).run Try.prog w= .ok 6 w:=by
    obtain ⟨i0,hi0,_,hsz,_⟩:=info_parts info42
    exact fun w=>by simp [Go.sizeOf,typeInfo,hi0,hsz]
   have hov:(callFunc 53 #[.slice (some ⟨g2,0,none⟩) 1 c2,.slice (some ⟨g,6,none⟩) n (cap - 1)]).run Try.prog w= .ok (.value (.bool false)) w:=by
    obtain ⟨gq,capq,cur,he,_,_,hh,_,_,hcs,_⟩:=api_Slot_35.flat.open_ ho0 (by omega)
    injection he with ha _ hcq
    injection ha with ha
    injection ha with hgq
    subst hgq hcq
    exact api_Slot_35.apart w ⟨g2,0,none⟩ ⟨g,6,none⟩ 1 c2 n (cap - 1) hne 42 42 cells2.size cur.size (by simp [World.shape?,hcell2]) (by simp [World.shape?,hh]) (by rw [hcs];show cap * 6≠0;omega) (blk_frozen hcell2 0) (blk_frozen hcell2 _)
   have hA1: ∀ W:World,(Instr.sliceAt 27 (.slice (some ⟨g,0,none⟩) n cap) none (some (.int .i64 nn)) none).run Try.prog W= .ok (.slice (some ⟨g,0,none⟩) n1 cap) W:=fun W=>api_Slot_35.cutA _ _ _ _ W (hq1 W)
   have hc0:decide (nn > (cap:Int))=false:=decide_eq_false hc1
   have HRR:=Aside0.mk hR
   have HG:=Aside0.mk hgr
   have HP:=Aside0.mk hP0
   have HL:=Aside0.mk hg
   clear hR hgr ho0 ho2 hV hC0 hB hp0_2 hp2_0 hcell2 hcell hlt hP2 hne hnc hc hP0 hg hg' hg2 hg2' r1 hsz hss hn hnn hn1
   have hw3:=HW3.out
   go_enter Try.func35,Try.ntmps35
   refine wp_seq ?_
   refine wp_region_list ?_
   refine Kd.event_run (w1:=w) (v:= .slice none 0 0) rfl (by kernel_rfl) ?_
   simp only [Act.put,List.setIfInBounds_toArray,List.set_cons_succ,List.set_cons_zero]
   refine wpList_nil ?_
   refine wp_seq ?_
   refine wp_region_list ?_
   refine Kd.event_run (w1:=w) (v:= .slice (some ⟨g,0,none⟩) n cap) rfl (by kernel_rfl) ?_
   simp only [Act.put,List.setIfInBounds_toArray,List.set_cons_succ,List.set_cons_zero]
   refine Kd.event_run (w1:=w) (v:= .int .i64 0) rfl (by kernel_rfl) ?_
   simp only [Act.put,List.setIfInBounds_toArray,List.set_cons_succ,List.set_cons_zero]
   refine Kd.event_run (w1:=w) (v:= .slice (some ⟨g,0,none⟩) n cap) rfl (api_Slot_35.cut_run 27 (.tmp 10) (some (.tmp 11)) none rfl (.slice (some ⟨g,0,none⟩) n cap) (by kernel_rfl) (some (.int .i64 0)) none (by kernel_rfl) (by kernel_rfl) hA0) ?_
   simp only [Act.put,List.setIfInBounds_toArray,List.set_cons_succ,List.set_cons_zero]
   refine wpList_nil ?_
   refine wp_seq ?_
   refine wp_region_list ?_
   refine Kd.event_run (w1:=w) (v:= .slice (some ⟨g2,0,none⟩) 1 c2) rfl (by kernel_rfl) ?_
   simp only [Act.put,List.setIfInBounds_toArray,List.set_cons_succ,List.set_cons_zero]
   refine Kd.event_run (w1:=w) (v:= .int .i64 1) rfl (by kernel_rfl) ?_
   simp only [Act.put,List.setIfInBounds_toArray,List.set_cons_succ,List.set_cons_zero]
   refine Kd.event_run (w1:=w) (v:= .int .i64 1) rfl (by kernel_rfl) ?_
   simp only [Act.put,List.setIfInBounds_toArray,List.set_cons_succ,List.set_cons_zero]
   refine wpList_nil ?_
   refine wp_seq ?_
   refine wp_seq ?_
   refine wp_region_list ?_
   refine Kd.event_run (w1:=w) (v:= .int .i64 1) rfl (by kernel_rfl) ?_
   simp only [Act.put,List.setIfInBounds_toArray,List.set_cons_succ,List.set_cons_zero]
   refine Kd.event_run (w1:=w) (v:= .bool false) rfl (by kernel_rfl) ?_
   simp only [Act.put,List.setIfInBounds_toArray,List.set_cons_succ,List.set_cons_zero]
   refine wpList_nil ?_
   refine wp_cond_false (by kernel_rfl) ?_
   refine wp_skip ?_
   refine wp_seq ?_
   refine wp_region_list ?_
   refine Kd.event_run (w1:=w) (v:= .slice (some ⟨g,0,none⟩) n cap) rfl (by kernel_rfl) ?_
   simp only [Act.put,List.setIfInBounds_toArray,List.set_cons_succ,List.set_cons_zero]
   refine Kd.event_run (w1:=w) (v:= .int .i64 (n:Int)) rfl (by kernel_rfl) ?_
   simp only [Act.put,List.setIfInBounds_toArray,List.set_cons_succ,List.set_cons_zero]
   refine Kd.event_run (w1:=w) (v:= .int .i64 (n:Int)) rfl (by kernel_rfl) ?_
   simp only [Act.put,List.setIfInBounds_toArray,List.set_cons_succ,List.set_cons_zero]
   refine wpList_nil ?_
   refine wp_seq ?_
   refine wp_seq ?_
   refine wp_region_list ?_
   refine Kd.event_run (w1:=w) (v:= .int .i64 0) rfl (by kernel_rfl) ?_
   simp only [Act.put,List.setIfInBounds_toArray,List.set_cons_succ,List.set_cons_zero]
   refine Kd.event_run (w1:=w) (v:= .int .i64 (n:Int)) rfl (by kernel_rfl) ?_
   simp only [Act.put,List.setIfInBounds_toArray,List.set_cons_succ,List.set_cons_zero]
   refine Kd.event_run (w1:=w) (v:= .bool false) rfl (api_Slot_35.eql_run hz2 rfl (by kernel_rfl) (by kernel_rfl)) ?_
   simp only [Act.put,List.setIfInBounds_toArray,List.set_cons_succ,List.set_cons_zero]
   refine wpList_nil ?_
   refine wp_cond_false (by kernel_rfl) ?_
   refine wp_skip ?_
   refine wp_seq ?_
   refine wp_seq ?_
   refine wp_region_list ?_
   refine Kd.event_run (w1:=w) (v:= .int .i64 (n:Int)) rfl (by kernel_rfl) ?_
   simp only [Act.put,List.setIfInBounds_toArray,List.set_cons_succ,List.set_cons_zero]
   refine Kd.event_run (w1:=w) (v:= .int .i64 1) rfl (by kernel_rfl) ?_
   simp only [Act.put,List.setIfInBounds_toArray,List.set_cons_succ,List.set_cons_zero]
   refine Kd.event_run (w1:=w) (v:= .int .i64 nn) rfl (by rw [← hw3];kernel_rfl) ?_
   simp only [Act.put,List.setIfInBounds_toArray,List.set_cons_succ,List.set_cons_zero]
   refine Kd.event_run (w1:=w) (v:= .slice (some ⟨g,0,none⟩) n cap) rfl (by kernel_rfl) ?_
   simp only [Act.put,List.setIfInBounds_toArray,List.set_cons_succ,List.set_cons_zero]
   refine Kd.event_run (w1:=w) (v:= .int .i64 (cap:Int)) rfl (by kernel_rfl) ?_
   simp only [Act.put,List.setIfInBounds_toArray,List.set_cons_succ,List.set_cons_zero]
   refine Kd.event_run (w1:=w) (v:= .bool false) rfl (api_Slot_35.gtr_run hc0 rfl (by kernel_rfl) (by kernel_rfl)) ?_
   simp only [Act.put,List.setIfInBounds_toArray,List.set_cons_succ,List.set_cons_zero]
   refine wpList_nil ?_
   refine wp_cond_false (by kernel_rfl) ?_
   refine wp_skip ?_
   refine wp_seq ?_
   refine wp_region_list ?_
   refine Kd.event_run (w1:=w) (v:= .slice (some ⟨g,0,none⟩) n cap) rfl (by kernel_rfl) ?_
   simp only [Act.put,List.setIfInBounds_toArray,List.set_cons_succ,List.set_cons_zero]
   refine Kd.event_run (w1:=w) (v:= .int .i64 (n:Int)) rfl (by kernel_rfl) ?_
   simp only [Act.put,List.setIfInBounds_toArray,List.set_cons_succ,List.set_cons_zero]
   refine Kd.event_run (w1:=w) (v:= .int .i64 1) rfl (by kernel_rfl) ?_
   simp only [Act.put,List.setIfInBounds_toArray,List.set_cons_succ,List.set_cons_zero]
   refine Kd.event_run (w1:=w) (v:= .int .i64 nn) rfl (by rw [← hw3];kernel_rfl) ?_
   simp only [Act.put,List.setIfInBounds_toArray,List.set_cons_succ,List.set_cons_zero]
   refine Kd.event_run (w1:=w) (v:= .slice (some ⟨g,0,none⟩) n1 cap) rfl (api_Slot_35.cut_run 27 (.tmp 56) none (some (.tmp 59)) rfl (.slice (some ⟨g,0,none⟩) n cap) (by kernel_rfl) none (some (.int .i64 nn)) (by kernel_rfl) (by kernel_rfl) hA1) ?_
   simp only [Act.put,List.setIfInBounds_toArray,List.set_cons_succ,List.set_cons_zero]
   refine Kd.event_run (w1:=w) (v:= .slice (some ⟨g,0,none⟩) n1 cap) rfl (by kernel_rfl) ?_
   simp only [Act.put,List.setIfInBounds_toArray,List.set_cons_succ,List.set_cons_zero]
   refine wpList_nil ?_
   refine wp_seq ?_
   refine wp_seq ?_
   refine wp_region_list ?_
   refine Kd.event_run (w1:=w) (v:= .slice (some ⟨g2,0,none⟩) 1 c2) rfl (by kernel_rfl) ?_
   simp only [Act.put,List.setIfInBounds_toArray,List.set_cons_succ,List.set_cons_zero]
   refine Kd.event_run (w1:=w) (v:= .slice (some ⟨g,0,none⟩) n1 cap) rfl (by kernel_rfl) ?_
   simp only [Act.put,List.setIfInBounds_toArray,List.set_cons_succ,List.set_cons_zero]
   refine Kd.event_run (w1:=w) (v:= .int .i64 0) rfl (by kernel_rfl) ?_
   simp only [Act.put,List.setIfInBounds_toArray,List.set_cons_succ,List.set_cons_zero]
   refine Kd.event_run (w1:=w) (v:= .int .i64 1) rfl (by kernel_rfl) ?_
   simp only [Act.put,List.setIfInBounds_toArray,List.set_cons_succ,List.set_cons_zero]
   refine Kd.event_run (w1:=w) (v:= .int .i64 1) rfl (by kernel_rfl) ?_
   simp only [Act.put,List.setIfInBounds_toArray,List.set_cons_succ,List.set_cons_zero]
   refine Kd.event_run (w1:=w) (v:= .slice (some ⟨g,6,none⟩) n (cap - 1)) rfl (api_Slot_35.cut_run 27 (.tmp 62) (some (.tmp 65)) none rfl (.slice (some ⟨g,0,none⟩) n1 cap) (by kernel_rfl) (some (.int .i64 1)) none (by kernel_rfl) (by kernel_rfl) hq3) ?_
   simp only [Act.put,List.setIfInBounds_toArray,List.set_cons_succ,List.set_cons_zero]
   refine Kd.event_run (w1:=w) (v:= .bool false) rfl (api_Slot_35.over_run (.tmp 61) (.tmp 66) (.slice (some ⟨g2,0,none⟩) 1 c2) (.slice (some ⟨g,6,none⟩) n (cap - 1)) rfl (by kernel_rfl) (by kernel_rfl) hov) ?_
   simp only [Act.put,List.setIfInBounds_toArray,List.set_cons_succ,List.set_cons_zero]
   refine Kd.event_run (w1:=w) (v:= .bool true) rfl (by kernel_rfl) ?_
   simp only [Act.put,List.setIfInBounds_toArray,List.set_cons_succ,List.set_cons_zero]
   refine wpList_nil ?_
   refine wp_cond_true (by kernel_rfl) ?_
   refine wp_seq ?_
   refine start_ (n:=9) (S:=fun w'=>True) (ds:=[]) #[false,false,false,false,false,false,false,false,false] (by kernel_rfl) rfl rfl trivial (fun hHeld=>?_)
   refine pure_ (i:=0) (N:=some 69) (v:= .slice (some ⟨g,0,none⟩) n1 cap) #[true,false,false,false,false,false,false,false,false] rfl rfl (by kernel_rfl) (fun _ _ _ h=>h) (Or.inl ⟨by rfl,fun w'=>by kernel_rfl⟩) rfl ?_
   simp only [Act.put,List.setIfInBounds_toArray,List.set_cons_succ,List.set_cons_zero]
   refine pure_ (i:=1) (N:=some 70) (v:= .int .i64 0) #[true,true,false,false,false,false,false,false,false] rfl rfl (by kernel_rfl) (fun _ _ _ h=>h) (Or.inl ⟨by rfl,fun w'=>by kernel_rfl⟩) rfl ?_
   simp only [Act.put,List.setIfInBounds_toArray,List.set_cons_succ,List.set_cons_zero]
   refine pure_ (i:=2) (N:=some 71) (v:= .int .i64 1) #[true,true,true,false,false,false,false,false,false] rfl rfl (by kernel_rfl) (fun _ _ _ h=>h) (Or.inl ⟨by rfl,fun w'=>by kernel_rfl⟩) rfl ?_
   simp only [Act.put,List.setIfInBounds_toArray,List.set_cons_succ,List.set_cons_zero]
   refine pure_ (i:=3) (N:=some 72) (v:= .int .i64 1) #[true,true,true,true,false,false,false,false,false] rfl rfl (by kernel_rfl) (fun _ _ _ h=>h) (Or.inl ⟨by rfl,fun w'=>by kernel_rfl⟩) rfl ?_
   simp only [Act.put,List.setIfInBounds_toArray,List.set_cons_succ,List.set_cons_zero]
   refine pure_ (i:=4) (N:=some 73) (v:= .slice (some ⟨g,6,none⟩) n (cap - 1)) #[true,true,true,true,true,false,false,false,false] rfl rfl (by kernel_rfl) (fun _ _ _ h=>h) (Or.inl ⟨by rfl,fun w'=>api_Slot_35.cut_run 27 (.tmp 69) (some (.tmp 72)) none rfl (.slice (some ⟨g,0,none⟩) n1 cap) (by kernel_rfl) (some (.int .i64 1)) none (by kernel_rfl) (by kernel_rfl) hq3⟩) rfl ?_
   simp only [Act.put,List.setIfInBounds_toArray,List.set_cons_succ,List.set_cons_zero]
   refine pure_ (i:=5) (N:=some 74) (v:= .slice (some ⟨g,0,none⟩) n1 cap) #[true,true,true,true,true,true,false,false,false] rfl rfl (by kernel_rfl) (fun _ _ _ h=>h) (Or.inl ⟨by rfl,fun w'=>by kernel_rfl⟩) rfl ?_
   simp only [Act.put,List.setIfInBounds_toArray,List.set_cons_succ,List.set_cons_zero]
   refine pure_ (i:=6) (N:=some 75) (v:= .int .i64 0) #[true,true,true,true,true,true,true,false,false] rfl rfl (by kernel_rfl) (fun _ _ _ h=>h) (Or.inl ⟨by rfl,fun w'=>by kernel_rfl⟩) rfl ?_
   simp only [Act.put,List.setIfInBounds_toArray,List.set_cons_succ,List.set_cons_zero]
   refine pure_ (i:=7) (N:=some 76) (v:= .slice (some ⟨g,0,none⟩) n1 cap) #[true,true,true,true,true,true,true,true,false] rfl rfl (by kernel_rfl) (fun _ _ _ h=>h) (Or.inl ⟨by rfl,fun w'=>api_Slot_35.cut_run 27 (.tmp 74) (some (.tmp 75)) none rfl (.slice (some ⟨g,0,none⟩) n1 cap) (by kernel_rfl) (some (.int .i64 0)) none (by kernel_rfl) (by kernel_rfl) hq4⟩) rfl ?_
   simp only [Act.put,List.setIfInBounds_toArray,List.set_cons_succ,List.set_cons_zero]
   refine one_ (i:=8) (N:=some 77) #[true,true,true,true,true,true,true,true,true] rfl rfl (by kernel_rfl) (by decide) (fun K hK=>?_)
   refine copy_step rfl (.tmp 73) (.tmp 76) 27 27 rfl (.slice (some ⟨g,6,none⟩) n (cap - 1)) (.slice (some ⟨g,0,none⟩) n1 cap) (by kernel_rfl) (by kernel_rfl) r1' ?_
   refine hK.out _ _ trivial (fun hHeld=>?_)
   clear hK K
   refine norm_ (a':=?_) ?_ ?_
   rotate_left
   ·
    show Act.put _ (some 77) _=_
    simp only [Act.put,List.setIfInBounds_toArray,List.set_cons_succ,List.set_cons_zero]
    rfl
   refine done_ (by kernel_rfl) ?_
   refine wp_seq ?_
   refine wp_region_list ?_
   refine Kd.event_run (w1:=W1) (v:= .slice (some ⟨g,0,none⟩) n1 cap) rfl (by kernel_rfl) ?_
   simp only [Act.put,List.setIfInBounds_toArray,List.set_cons_succ,List.set_cons_zero]
   refine Kd.event_run (w1:=W1) (v:= .int .i64 0) rfl (by kernel_rfl) ?_
   simp only [Act.put,List.setIfInBounds_toArray,List.set_cons_succ,List.set_cons_zero]
   refine Kd.event_run (w1:=W1) (v:= .slice (some ⟨g,0,none⟩) n1 cap) rfl (api_Slot_35.cut_run 27 (.tmp 78) (some (.tmp 79)) none rfl (.slice (some ⟨g,0,none⟩) n1 cap) (by kernel_rfl) (some (.int .i64 0)) none (by kernel_rfl) (by kernel_rfl) hq4) ?_
   simp only [Act.put,List.setIfInBounds_toArray,List.set_cons_succ,List.set_cons_zero]
   refine Kd.event_run (w1:=W1) (v:= .slice (some ⟨g2,0,none⟩) 1 c2) rfl (by kernel_rfl) ?_
   simp only [Act.put,List.setIfInBounds_toArray,List.set_cons_succ,List.set_cons_zero]
   refine copy_event rfl (.tmp 80) (.tmp 81) 27 27 rfl (.slice (some ⟨g,0,none⟩) n1 cap) (.slice (some ⟨g2,0,none⟩) 1 c2) (by kernel_rfl) (by kernel_rfl) r2 ?_
   simp only [Act.put,List.setIfInBounds_toArray,List.set_cons_succ,List.set_cons_zero]
   refine wpList_nil ?_
   refine wp_seq ?_
   refine wp_region_list ?_
   refine Kd.event_run (w1:=W2) (v:= .slice (some ⟨g,0,none⟩) n1 cap) rfl (by kernel_rfl) ?_
   simp only [Act.put,List.setIfInBounds_toArray,List.set_cons_succ,List.set_cons_zero]
   refine Kd.event_run (w1:=W2) (v:= .slice (some ⟨g,0,none⟩) n1 cap) rfl (by kernel_rfl) ?_
   simp only [Act.put,List.setIfInBounds_toArray,List.set_cons_succ,List.set_cons_zero]
   refine wpList_nil ?_
   refine wp_ret ?_
   clear hw3
   go_ret
   have hk1: ∀ k,some g=some k→w0.heap.size≤k:=fun k hk=>Option.some.inj hk▸HL.out
   have hk2: ∀ k,some g=some k→P0_ k∨P2_ k:=fun k hk=>Option.some.inj hk▸ .inl HP.out
   exact ⟨_,rfl,Kd.R_mono HRR.out (fun k hk=> .inl (.inl hk)),HB.out.grown HG.out HB.out.size hk1,Kept.of_grown HG.out (Kept.refl _ _) (fun k hk=> .inl (hk2 k hk))⟩
end
end Go.Proofs.Yteoaegigjlhamaa.PC19
