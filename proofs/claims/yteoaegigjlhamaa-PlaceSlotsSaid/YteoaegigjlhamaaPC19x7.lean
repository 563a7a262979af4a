/- Chapter 19, printed: what the functions compute, and proofs that they do. -/
import Derived.Test.YteoaegigjlhamaaHIns
import Derived.Test.YteoaegigjlhamaaPC19x0
import Derived.Test.YteoaegigjlhamaaPC19x5
import Derived.Test.YteoaegigjlhamaaPC19x6
namespace Go.Proofs.Yteoaegigjlhamaa.PC19
open Go.RowKit Go.Proofs.YteoaegigjlhamaaW.PrintWords Go.Proofs.YteoaegigjlhamaaW.PrintLast Go.Proofs.YteoaegigjlhamaaW.PrintMore
attribute [local go_sem] max2_int min2_int max_two min_two max_three min_three max_four min_four
set_option linter.unusedVariables false
set_option maxRecDepth 100000
set_option linter.unusedSimpArgs false
def api_Slot_35.f (l0:List S42) (a1:Int) (l2:List S42):Option (List S42):=if a1=0∧l2.length=1∧l0.length < 1000000 then some (l2++l0) else none
section
open Go.Proofs.YteoaegigjlhamaaH
theorem api_Slot_35.flat:Flat k42 (fun x=>[.int .i64 x.f0,.int .i64 x.f1,.int .i64 x.f2,.int .i64 x.f3,.int .i64 x.f4,.int .i64 x.f5]) :=
 ⟨fun w x cs=>⟨k42_open,fun h=>h▸k42_mk w x⟩,fun w base ok x cs=>⟨k42_openM,fun h=>h▸k42_mkM w base ok x⟩,by decide⟩
theorem api_Slot_35.cut (j:Nat) (n c:Nat) (g:Nat) (hj:j≤n) (hc:c≠j) (W:World):(Instr.slice 27 (.slice (some ⟨g,0,none⟩) n c) (some (.int .i64 (j:Int))) none none).run Try.prog W= .ok (.slice (some ⟨g,j * 6,none⟩) (n - j) (c - j)) W:=by
 obtain ⟨i0,hi0,_,hsz,_⟩:=info_parts info42
 have h1:=cut_from (P:=Try.prog) 27 42 .i64 Try.underlying27 hi0 6 hsz (some ⟨g,0,none⟩) n c (j:Int) (by omega) (by omega) W
 rwa [show ((j:Int)).toNat=j by omega,if_neg hc,Option.map_some,add_plain] at h1
theorem api_Slot_35.cutA (v x:Value) (lo hi:Option Value) (W:World) (h:(Instr.slice 27 v lo hi none).run Try.prog W= .ok x W):(Instr.sliceAt 27 v lo hi none).run Try.prog W= .ok x W :=
 (run_sliceAt_slice W 27 _ _ _ _ (by rw [show (Try.prog).elem 27=42 from by kernel_rfl];exact Try.underlying27)).trans h
theorem api_Slot_35.upto (j:Int) (n c:Nat) (A:Option Addr) (h0:0≤j) (hc:j≤c) (W:World):(Instr.slice 27 (.slice A n c) none (some (.int .i64 j)) none).run Try.prog W= .ok (.slice A j.toNat c) W:=by
 obtain ⟨i0,hi0,_,hsz,_⟩:=info_parts info42
 have hel:(Try.prog).elem 27=42:=by kernel_rfl
 have ha:(A.map fun x=>x.add 0)=A:=by cases A <;> simp [Addr.add]
 rw [run_slice_h W 27 A n c (by rw [hel];exact Try.underlying27) .i64 j h0 hc,hel]
 simp [sizeOf,typeInfo,hi0,sliced,Result.andThen,ha]
theorem api_Slot_35.cut_run {o:Oper} {a:Act} {W:World} (t:TypeId) (x:Operand) (lo hi:Option Operand) (ho:o.op= .slice t x lo hi none) (u:Value) (hu:a.eval x=u) (lo' hi':Option Value) (hlo:lo.map a.eval=lo') (hhi:hi.map a.eval=hi') {v:Value}
  (hr: ∀ W:World,(Instr.sliceAt t u lo' hi' none).run Try.prog W= .ok v W):(execOp a.eval o).run Try.prog W= .ok (.value v) W:=by
 unfold execOp
 rw [ho]
 simp only [hu,hlo,hhi,Option.map_none]
 simp [hr,Result.andThen]
theorem api_Slot_35.eql_run {o:Oper} {a:Act} {W:World} {x y:Operand} {m n:Int} {e:TypeId} (hne: ¬ m=n) (ho:o.op= .binOp .eql 3 x y e) (hx:a.eval x= .int .i64 m) (hy:a.eval y= .int .i64 n):(execOp a.eval o).run Try.prog W= .ok (.value (.bool false)) W:=by
 unfold execOp
 rw [ho]
 simp only [hx,hy]
 go_simp
theorem api_Slot_35.gtr_run {o:Oper} {a:Act} {W:World} {x y:Operand} {m n:Int} {e:TypeId} {b:Bool} (hb:decide (m > n)=b) (ho:o.op= .binOp .gtr 3 x y e) (hx:a.eval x= .int .i64 m) (hy:a.eval y= .int .i64 n):(execOp a.eval o).run Try.prog W= .ok (.value (.bool b)) W:=by
 subst hb
 unfold execOp
 rw [ho]
 simp only [hx,hy]
 go_simp
theorem api_Slot_35.sub_run {o:Oper} {a:Act} {W:World} {x y:Operand} {m n:Int} {e:TypeId} {r:Int} (hb:wrap64 (m - n)=r) (ho:o.op= .binOp .sub 3 x y e) (hx:a.eval x= .int .i64 m) (hy:a.eval y= .int .i64 n):(execOp a.eval o).run Try.prog W= .ok (.value (.int .i64 r)) W:=by
 subst hb
 unfold execOp
 rw [ho]
 simp only [hx,hy]
 go_simp
 exact i64_w _
theorem api_Slot_35.apart (w:World) (a b:Addr) (la ca lb cb:Nat) (hne:a.block≠b.block) (tA tB:TypeId) (kA kB:Nat) (hsa:w.shape? a.block=some (tA,kA)) (hsb:w.shape? b.block=some (tB,kB)) (hkB:kB≠0) (hfa:w.frozen? a=false) (hfe:w.frozen? {block:=a.block,off:=kA}=false) :
  (callFunc 53 #[.slice (some a) la ca,.slice (some b) lb cb]).run Try.prog w= .ok (.value (.bool false)) w:=by
 have hsz: ∀ w:World,(Go.sizeOf 42).run Try.prog w= .ok 6 w:=by
  obtain ⟨i0,hi0,_,hsz,_⟩:=info_parts info42
  exact fun w=>by simp [Go.sizeOf,typeInfo,hi0,hsz]
 have h1:=Lib.run_overlaps_apart (P:=Try.prog) w 27 4 42 Try.underlying27 6 hsz a b la ca lb cb hne tA tB kA kB hsa hsb hkB hfa hfe
 rw [run_callFunc_extern Try.func53 TK TK TK (e:=Extern.SlicesOverlaps.overlaps #[27,27] #[4]) TK,h1]
 rfl
theorem api_Slot_35.over_run {o:Oper} {a:Act} {W:World} (x y:Operand) (u v:Value) (ho:o.op= .call {callee:= .value (.func 53),args:= #[x,y],argTypes:= #[27,27]}) (hx:a.eval x=u) (hy:a.eval y=v) {b:Value}
  (hr:(callFunc 53 #[u,v]).run Try.prog W= .ok (.value b) W):(execOp a.eval o).run Try.prog W= .ok (.value b) W:=by
 unfold execOp
 simp only [ho,resolve,invoke,Sem.run_bind,Sem.run_pure,Result.andThen_ok,List.map_toArray,List.map_cons,List.map_nil,hx,hy]
 simp [Act.eval,Deferred.ofValue,hr,Result.andThen]
set_option maxHeartbeats 4000000 in
theorem api_Slot_35.calls (P0_:Nat→Prop) (u9000_:Value) (l0:List S42) (a1:Int) (P2_:Nat→Prop) (u9001_:Value) (l2:List S42) (r:List S42) (w0 w:World) (hB:Below w0.heap.size w0 w) (ho0:Kd.R k42 42 w w0.heap.size P0_ u9000_ l0) (hp0_2: ∀ k_,P0_ k_→ ¬ P2_ k_) (ho2:Kd.R k42 42 w w0.heap.size P2_ u9001_ l2) (hp2_0: ∀ k_,P2_ k_→ ¬ P0_ k_) (h:api_Slot_35.f l0 a1 l2=some r) :
  Calls Try.prog 35 #[u9000_,.int .i64 a1,u9001_] w fun e w'=> ∃ v0_:Value,e= .returned v0_∧Kd.R k42 42 w' w0.heap.size (fun k_=>((P0_ k_∨P2_ k_)∨w.heap.size≤k_)) v0_ r∧Below w0.heap.size w0 w'∧Kept w w' (fun k_=>P0_ k_∨P2_ k_):=by
 unfold api_Slot_35.f at h
 split at h
 rotate_left
 ·
  cases h
 rename_i hl
 obtain rfl:=Option.some.inj h
 obtain ⟨rfl,h2,hlt⟩:=hl
 clear h
 obtain ⟨x,rfl⟩: ∃ x,l2=[x]:=by
  cases l2 with
  | nil=>cases h2
  | cons x r=>cases r with
   | nil=>exact ⟨x,rfl⟩
   | cons y r=>simp at h2
 clear h2
 obtain ⟨g2,c2,hu2,hg2,hg2',cells2,hcell2⟩:=Kd.R_form ho2 (Nat.one_pos)
 rw [show [x].length=1 from rfl] at hu2
 subst hu2
 have hP2:P2_ g2:=ho2.1 g2 (by simp [Value.ownBlock])
 have hV:Kd.C k42 w (some ⟨g2,0,none⟩) 1 [x]:=(Kd.R_reads' ho2).2.2
 have hss:(Try.prog.info? 42).map (·.size)=some 6:=by kernel_rfl
 have HB:=Am hB
 have hw1:wrap64 ((0:Int)+1)=1:=by decide +kernel
 have hw6:IntKind.i64.wrap 1=1:=by decide +kernel
 have hw7:wrap64 1=1:=by decide +kernel
 rcases Nat.eq_zero_or_pos l0.length with hz|hp
 ·
  obtain rfl:l0=[]:=List.eq_nil_of_length_eq_zero hz
  obtain ⟨A0,c0,rfl⟩:=Kd.R_slice ho0
  rw [show ([]:List S42).length=0 from rfl] at ho0 ⊢
  obtain ⟨vv,hq0⟩: ∃ vv,∀ W:World,(Instr.slice 27 (.slice A0 0 c0) (some (.int .i64 0)) none none).run Try.prog W= .ok vv W:=by
   obtain ⟨i0,hi0,_,hsz,_⟩:=info_parts info42
   exact ⟨_,cut_from (P:=Try.prog) 27 42 .i64 Try.underlying27 hi0 6 hsz A0 0 c0 0 (by decide) (by decide)⟩
  have HO:=Am (Kd.R_mono ho0 (ok':=fun k_=>((P0_ k_∨P2_ k_)∨w.heap.size≤k_)) (fun k hk=> .inl (.inl hk)))
  have HP:=Am ho0.1
  have HV:=Am hV
  clear ho0 ho2 hV hB hp0_2 hp2_0 hcell2 hlt
  go_enter Try.func35,Try.ntmps35
  go_wp2_with (first|((with_reducible refine gate_builtin (b:= .append) (xs:= #[.tmp 23,.tmp 24]) rfl ?_);at_builtin;refine Kd.R_append_rows k42 (w0:=w0) w0.heap.size rfl (.tmp 23) (.tmp 24) 27 42 (.agg #[(.int .i64 0),(.int .i64 0),(.int .i64 0),(.int .i64 0),(.int .i64 0),(.int .i64 0)]) 48 rfl Try.underlying27 info42 rfl (by decide) (by decide) (.slice A0 0 c0) [] [x] (some ⟨g2,0,none⟩) 1 c2 (fun k_=>((P0_ k_∨P2_ k_)∨w.heap.size≤k_)) (fun _=>False) rfl rfl HO.out HV.out (fun x cs hx=>by obtain rfl:=k42_open hx;exact k42_mkM _ _ _ _) (fun _ h=>h.elim) (fun _ hk=> .inr hk) HB.out HB.out.size (by decide) ?_;intro v_ w1 ho hb1 hg1 hat;have n0_:=Am ho;have n1_:=Am hb1;have n2_:=Am hg1;clear ho hb1 hg1 hat))
  go_ret
  exact ⟨_,rfl,n0_.out,n1_.out,Kept.of_grown n2_.out (Kept.refl _ _) (fun k hk=> .inl (.inl (HP.out k hk)))⟩
 ·
  clear hw1 hw6 hw7
  obtain ⟨g,cap,hu0,hg,hg',cells,hcell⟩:=Kd.R_form ho0 hp
  subst hu0
  have hP0:P0_ g:=ho0.1 g (by simp [Value.ownBlock])
  have hne:g2≠g:=fun e=>hp0_2 g hP0 (e▸hP2)
  have hnc:l0.length≤cap:=(Kd.R_reads' ho0).2.1
  obtain ⟨n,hn⟩: ∃ n,n=l0.length:=⟨_,rfl⟩
  rw [← hn] at ho0 hp hlt hnc ⊢
  have hC0:=(Kd.R_reads' ho0).2.2
  rw [← hn] at hC0
  have hz2: ¬ ((0:Int)=(n:Int)):=by omega
  obtain ⟨nn,hnn⟩: ∃ nn:Int,nn=((n+1:Nat):Int):=⟨_,rfl⟩
  have hw2:wrap64 ((n:Int)+1)=nn:=by rw [hnn];unfold wrap64;omega
  have hw3:IntKind.i64.wrap ((n:Int)+1)=nn:=hw2▸(by rw [IntKind.wrap_i64,hw2,hnn];omega)
  have HW3:=Am hw3
  clear hw3 hw2
  have hq0: ∀ W:World,(Instr.slice 27 (.slice (some ⟨g,0,none⟩) n cap) (some (.int .i64 0)) none none).run Try.prog W= .ok (.slice (some ⟨g,0,none⟩) n cap) W:=fun W=>by
   have:=api_Slot_35.cut 0 n cap g (by omega) (by omega) W
   rwa [Nat.zero_mul,Nat.sub_zero,Nat.sub_zero] at this
  have hA0: ∀ W:World,(Instr.sliceAt 27 (.slice (some ⟨g,0,none⟩) n cap) (some (.int .i64 0)) none none).run Try.prog W= .ok (.slice (some ⟨g,0,none⟩) n cap) W:=fun W=>api_Slot_35.cutA _ _ _ _ W (hq0 W)
  by_cases hc:cap < n+1
  ·
   have hc1:nn > (cap:Int):=by rw [hnn];omega
   have hc2:(cap:Int) < nn:=hc1
   have HW5:Aside0 (wrap64 (nn - 0)=nn):=Am (by rw [Int.sub_zero,hnn];unfold wrap64;omega)
   obtain ⟨G,W1,W2,W3,hG,r1,r2,r3,hR,hb⟩:=api_Slot_35.flat.grow (P:=Try.prog) w 27 3 42 27 3 3 Try.underlying27 Try.underlying3 (.agg #[(.int .i64 0),(.int .i64 0),(.int .i64 0),(.int .i64 0),(.int .i64 0),(.int .i64 0)]) 48 info42 rfl (by decide) g n cap g2 c2 x l0 hC0 hp hc hlt hV
   rw [← hnn] at r1
   have hq1:=fun W=>api_Slot_35.upto 0 n cap (some ⟨g,0,none⟩) (by decide) (by omega) W
   rw [show ((0:Int)).toNat=0 from rfl] at hq1
   obtain ⟨h,hh⟩: ∃ h,h=w.heap.size:=⟨_,rfl⟩
   obtain ⟨n1,hn1⟩: ∃ n1,n1=n+1:=⟨_,rfl⟩
   rw [← hh,← hn1] at r1 r2 hR
   rw [← hh] at r3
   have hq2: ∀ W:World,(Instr.slice 27 (.slice (some ⟨h,0,none⟩) n1 G) (some (.int .i64 0)) none none).run Try.prog W= .ok (.slice (some ⟨h,0,none⟩) n1 G) W:=fun W=>by
    have:=api_Slot_35.cut 0 n1 G h (by omega) (by omega) W
    rwa [Nat.zero_mul,Nat.sub_zero,Nat.sub_zero] at this
   have hq3: ∀ W:World,(Instr.sliceAt 27 (.slice (some ⟨h,0,none⟩) n1 G) (some (.int .i64 1)) none none).run Try.prog W= .ok (.slice (some ⟨h,6,none⟩) n (G - 1)) W:=fun W=>by
    have:=api_Slot_35.cutA _ _ _ _ W (api_Slot_35.cut 1 n1 G h (by omega) (by omega) W)
    rwa [Nat.one_mul,show n1 - 1=n by omega] at this
   have hq4: ∀ W:World,(Instr.sliceAt 27 (.slice (some ⟨g,0,none⟩) n cap) (some (.int .i64 0)) none none).run Try.prog W= .ok (.slice (some ⟨g,0,none⟩) n cap) W:=fun W=>api_Slot_35.cutA _ _ _ _ W (hq0 W)
   have r3':(Builtin.copy_ #[27,27] 3 #[.slice (some ⟨h,6,none⟩) n (G - 1),.slice (some ⟨g,0,none⟩) n cap]).run Try.prog W2.drew= .ok (.int .i64 (n:Int)) W3:=r3
   have hA1: ∀ W:World,(Instr.sliceAt 27 (.slice (some ⟨g,0,none⟩) n cap) none (some (.int .i64 0)) none).run Try.prog W= .ok (.slice (some ⟨g,0,none⟩) 0 cap) W:=fun W=>api_Slot_35.cutA _ _ _ _ W (hq1 W)
   have hA2: ∀ W:World,(Instr.sliceAt 27 (.slice (some ⟨h,0,none⟩) n1 G) (some (.int .i64 0)) none none).run Try.prog W= .ok (.slice (some ⟨h,0,none⟩) n1 G) W:=fun W=>api_Slot_35.cutA _ _ _ _ W (hq2 W)
   have hc0:decide (nn > (cap:Int))=true:=decide_eq_true hc1
   have HRR:=Am hR
   have HBB:=Am hb
   have HH:=Am hh
   clear hR hb ho0 ho2 hV hC0 hB hp0_2 hp2_0 hcell2 hcell hlt hP0 hP2 hne hnc hc hG hh hg hg' hg2 hg2' r3 hn hnn hn1
   have hw3:=HW3.out
   have hw5:=HW5.out
   go_enter Try.func35,Try.ntmps35
   refine wp_seq ?_
   refine wp_region_list ?_
   refine Kd.event_run (w1:=w) (v:= .slice none 0 0) rfl TK ?_
   simp only [PT2]
   refine wpList_nil ?_
   refine wp_seq ?_
   refine wp_region_list ?_
   refine Kd.event_run (w1:=w) (v:= .slice (some ⟨g,0,none⟩) n cap) rfl TK ?_
   simp only [PT2]
   refine Kd.event_run (w1:=w) (v:= .int .i64 0) rfl TK ?_
   simp only [PT2]
   refine Kd.event_run (w1:=w) (v:= .slice (some ⟨g,0,none⟩) n cap) rfl (api_Slot_35.cut_run 27 (.tmp 10) (some (.tmp 11)) none rfl (.slice (some ⟨g,0,none⟩) n cap) TK (some (.int .i64 0)) none TK TK hA0) ?_
   simp only [PT2]
   refine wpList_nil ?_
   refine wp_seq ?_
   refine wp_region_list ?_
   refine Kd.event_run (w1:=w) (v:= .slice (some ⟨g2,0,none⟩) 1 c2) rfl TK ?_
   simp only [PT2]
   refine Kd.event_run (w1:=w) (v:= .int .i64 1) rfl TK ?_
   simp only [PT2]
   refine Kd.event_run (w1:=w) (v:= .int .i64 1) rfl TK ?_
   simp only [PT2]
   refine wpList_nil ?_
   refine wp_seq ?_
   refine wp_seq ?_
   refine wp_region_list ?_
   refine Kd.event_run (w1:=w) (v:= .int .i64 1) rfl TK ?_
   simp only [PT2]
   refine Kd.event_run (w1:=w) (v:= .bool false) rfl TK ?_
   simp only [PT2]
   refine wpList_nil ?_
   refine wp_cond_false TK ?_
   refine wp_skip ?_
   refine wp_seq ?_
   refine wp_region_list ?_
   refine Kd.event_run (w1:=w) (v:= .slice (some ⟨g,0,none⟩) n cap) rfl TK ?_
   simp only [PT2]
   refine Kd.event_run (w1:=w) (v:= .int .i64 (n:Int)) rfl TK ?_
   simp only [PT2]
   refine Kd.event_run (w1:=w) (v:= .int .i64 (n:Int)) rfl TK ?_
   simp only [PT2]
   refine wpList_nil ?_
   refine wp_seq ?_
   refine wp_seq ?_
   refine wp_region_list ?_
   refine Kd.event_run (w1:=w) (v:= .int .i64 0) rfl TK ?_
   simp only [PT2]
   refine Kd.event_run (w1:=w) (v:= .int .i64 (n:Int)) rfl TK ?_
   simp only [PT2]
   refine Kd.event_run (w1:=w) (v:= .bool false) rfl (api_Slot_35.eql_run hz2 rfl TK TK) ?_
   simp only [PT2]
   refine wpList_nil ?_
   refine wp_cond_false TK ?_
   refine wp_skip ?_
   refine wp_seq ?_
   refine wp_seq ?_
   refine wp_region_list ?_
   refine Kd.event_run (w1:=w) (v:= .int .i64 (n:Int)) rfl TK ?_
   simp only [PT2]
   refine Kd.event_run (w1:=w) (v:= .int .i64 1) rfl TK ?_
   simp only [PT2]
   refine Kd.event_run (w1:=w) (v:= .int .i64 nn) rfl (by rw [← hw3];kernel_rfl) ?_
   simp only [PT2]
   refine Kd.event_run (w1:=w) (v:= .slice (some ⟨g,0,none⟩) n cap) rfl TK ?_
   simp only [PT2]
   refine Kd.event_run (w1:=w) (v:= .int .i64 (cap:Int)) rfl TK ?_
   simp only [PT2]
   refine Kd.event_run (w1:=w) (v:= .bool true) rfl (api_Slot_35.gtr_run hc0 rfl TK TK) ?_
   simp only [PT2]
   refine wpList_nil ?_
   refine wp_cond_true TK ?_
   refine wp_seq ?_
   refine wp_region_list ?_
   refine Kd.event_run (w1:=w) (v:= .slice (some ⟨g,0,none⟩) n cap) rfl TK ?_
   simp only [PT2]
   refine Kd.event_run (w1:=w) (v:= .int .i64 0) rfl TK ?_
   simp only [PT2]
   refine Kd.event_run (w1:=w) (v:= .slice (some ⟨g,0,none⟩) 0 cap) rfl (api_Slot_35.cut_run 27 (.tmp 32) none (some (.tmp 33)) rfl (.slice (some ⟨g,0,none⟩) n cap) TK none (some (.int .i64 0)) TK TK hA1) ?_
   simp only [PT2]
   refine Kd.event_run (w1:=w) (v:= .int .i64 (n:Int)) rfl TK ?_
   simp only [PT2]
   refine Kd.event_run (w1:=w) (v:= .int .i64 1) rfl TK ?_
   simp only [PT2]
   refine Kd.event_run (w1:=w) (v:= .int .i64 nn) rfl (by rw [← hw3];kernel_rfl) ?_
   simp only [PT2]
   refine Kd.event_run (w1:=w) (v:= .int .i64 0) rfl TK ?_
   simp only [PT2]
   refine Kd.event_run (w1:=w) (v:= .int .i64 nn) rfl (api_Slot_35.sub_run hw5 rfl TK TK) ?_
   simp only [PT2]
   refine append_event rfl (.tmp 34) (.tmp 39) 27 3 rfl (.slice (some ⟨g,0,none⟩) 0 cap) (.int .i64 nn) TK TK r1 ?_
   simp only [PT2]
   refine Kd.event_run (w1:=W1) (v:= .slice (some ⟨h,0,none⟩) n1 G) rfl TK ?_
   simp only [PT2]
   refine wpList_nil ?_
   refine wp_seq ?_
   refine wp_region_list ?_
   refine Kd.event_run (w1:=W1) (v:= .slice (some ⟨h,0,none⟩) n1 G) rfl TK ?_
   simp only [PT2]
   refine Kd.event_run (w1:=W1) (v:= .int .i64 0) rfl TK ?_
   simp only [PT2]
   refine Kd.event_run (w1:=W1) (v:= .slice (some ⟨h,0,none⟩) n1 G) rfl (api_Slot_35.cut_run 27 (.tmp 41) (some (.tmp 42)) none rfl (.slice (some ⟨h,0,none⟩) n1 G) TK (some (.int .i64 0)) none TK TK hA2) ?_
   simp only [PT2]
   refine Kd.event_run (w1:=W1) (v:= .slice (some ⟨g2,0,none⟩) 1 c2) rfl TK ?_
   simp only [PT2]
   refine copy_event rfl (.tmp 43) (.tmp 44) 27 27 rfl (.slice (some ⟨h,0,none⟩) n1 G) (.slice (some ⟨g2,0,none⟩) 1 c2) TK TK r2 ?_
   simp only [PT2]
   refine wpList_nil ?_
   refine wp_seq ?_
   refine start_ (n:=9) (S:=fun w'=>True) (ds:=[]) (bl 9 0) TK rfl rfl trivial (fun hHeld=>?_)
   refine pure_ (i:=0) (N:=some 46) (v:= .slice (some ⟨h,0,none⟩) n1 G) (bl 9 1) rfl rfl TK (fun _ _ _ h=>h) (Or.inl ⟨by rfl,fun w'=>by kernel_rfl⟩) rfl ?_
   simp only [PT2]
   refine pure_ (i:=1) (N:=some 47) (v:= .int .i64 0) (bl 9 3) rfl rfl TK (fun _ _ _ h=>h) (Or.inl ⟨by rfl,fun w'=>by kernel_rfl⟩) rfl ?_
   simp only [PT2]
   refine pure_ (i:=2) (N:=some 48) (v:= .int .i64 1) (bl 9 7) rfl rfl TK (fun _ _ _ h=>h) (Or.inl ⟨by rfl,fun w'=>by kernel_rfl⟩) rfl ?_
   simp only [PT2]
   refine pure_ (i:=3) (N:=some 49) (v:= .int .i64 1) (bl 9 15) rfl rfl TK (fun _ _ _ h=>h) (Or.inl ⟨by rfl,fun w'=>by kernel_rfl⟩) rfl ?_
   simp only [PT2]
   refine pure_ (i:=4) (N:=some 50) (v:= .slice (some ⟨h,6,none⟩) n (G - 1)) (bl 9 31) rfl rfl TK (fun _ _ _ h=>h) (Or.inl ⟨by rfl,fun w'=>api_Slot_35.cut_run 27 (.tmp 46) (some (.tmp 49)) none rfl (.slice (some ⟨h,0,none⟩) n1 G) TK (some (.int .i64 1)) none TK TK hq3⟩) rfl ?_
   simp only [PT2]
   refine pure_ (i:=5) (N:=some 51) (v:= .slice (some ⟨g,0,none⟩) n cap) (bl 9 63) rfl rfl TK (fun _ _ _ h=>h) (Or.inl ⟨by rfl,fun w'=>by kernel_rfl⟩) rfl ?_
   simp only [PT2]
   refine pure_ (i:=6) (N:=some 52) (v:= .int .i64 0) (bl 9 127) rfl rfl TK (fun _ _ _ h=>h) (Or.inl ⟨by rfl,fun w'=>by kernel_rfl⟩) rfl ?_
   simp only [PT2]
   refine pure_ (i:=7) (N:=some 53) (v:= .slice (some ⟨g,0,none⟩) n cap) (bl 9 255) rfl rfl TK (fun _ _ _ h=>h) (Or.inl ⟨by rfl,fun w'=>api_Slot_35.cut_run 27 (.tmp 51) (some (.tmp 52)) none rfl (.slice (some ⟨g,0,none⟩) n cap) TK (some (.int .i64 0)) none TK TK hA0⟩) rfl ?_
   simp only [PT2]
   refine one_ (i:=8) (N:=some 54) (bl 9 511) rfl rfl TK (by decide) (fun K hK=>?_)
   refine copy_step rfl (.tmp 50) (.tmp 53) 27 27 rfl (.slice (some ⟨h,6,none⟩) n (G - 1)) (.slice (some ⟨g,0,none⟩) n cap) TK TK r3' ?_
   refine hK.out _ _ trivial (fun hHeld=>?_)
   clear hK K
   refine norm_ (a':=?_) ?_ ?_
   rotate_left
   ·
    show Act.put _ (some 54) _=_
    simp only [PT2]
    rfl
   refine done_ TK ?_
   refine wp_seq ?_
   refine wp_region_list ?_
   refine Kd.event_run (w1:=W3) (v:= .slice (some ⟨h,0,none⟩) n1 G) rfl TK ?_
   simp only [PT2]
   refine Kd.event_run (w1:=W3) (v:= .slice (some ⟨h,0,none⟩) n1 G) rfl TK ?_
   simp only [PT2]
   refine wpList_nil ?_
   refine wp_ret ?_
   go_ret
   exact ⟨_,rfl,Kd.R_lower (Kd.R_mono HRR.out (fun k hk=> .inr (HH.out▸hk))) (HH.out▸HB.out.size),below_weaken HB.out HB.out.size HBB.out,Kept.of_below HBB.out _⟩
  ·
   have hc1: ¬ nn > (cap:Int):=by rw [hnn];omega
   have hc2: ¬ (cap:Int) < nn:=hc1
   obtain ⟨W1,W2,r1,r2,hR,hgr⟩:=api_Slot_35.flat.room (P:=Try.prog) w 27 42 3 3 Try.underlying27 hss g2 c2 x l0 ho0 hp (by omega) hne hV
   obtain ⟨n1,hn1⟩: ∃ n1,n1=n+1:=⟨_,rfl⟩
   rw [← hn1] at r1 r2 hR
   have hq1: ∀ W:World,(Instr.slice 27 (.slice (some ⟨g,0,none⟩) n cap) none (some (.int .i64 nn)) none).run Try.prog W= .ok (.slice (some ⟨g,0,none⟩) n1 cap) W:=fun W=>by
    have:=api_Slot_35.upto nn n cap (some ⟨g,0,none⟩) (by omega) (by omega) W
    rwa [show nn.toNat=n1 by omega] at this
   have hq2: ∀ W:World,(Instr.slice 27 (.slice (some ⟨g,0,none⟩) n1 cap) (some (.int .i64 1)) none none).run Try.prog W= .ok (.slice (some ⟨g,6,none⟩) n (cap - 1)) W:=fun W=>by
    have:=api_Slot_35.cut 1 n1 cap g (by omega) (by omega) W
    rwa [Nat.one_mul,show n1 - 1=n by omega] at this
   have hq3: ∀ W:World,(Instr.sliceAt 27 (.slice (some ⟨g,0,none⟩) n1 cap) (some (.int .i64 1)) none none).run Try.prog W= .ok (.slice (some ⟨g,6,none⟩) n (cap - 1)) W:=fun W=>api_Slot_35.cutA _ _ _ _ W (hq2 W)
   have hq5: ∀ W:World,(Instr.slice 27 (.slice (some ⟨g,0,none⟩) n1 cap) (some (.int .i64 0)) none none).run Try.prog W= .ok (.slice (some ⟨g,0,none⟩) n1 cap) W:=fun W=>by
    have:=api_Slot_35.cut 0 n1 cap g (by omega) (by omega) W
    rwa [Nat.zero_mul,Nat.sub_zero,Nat.sub_zero] at this
   have hq4: ∀ W:World,(Instr.sliceAt 27 (.slice (some ⟨g,0,none⟩) n1 cap) (some (.int .i64 0)) none none).run Try.prog W= .ok (.slice (some ⟨g,0,none⟩) n1 cap) W:=fun W=>api_Slot_35.cutA _ _ _ _ W (hq5 W)
   have r1':(Builtin.copy_ #[27,27] 3 #[.slice (some ⟨g,6,none⟩) n (cap - 1),.slice (some ⟨g,0,none⟩) n1 cap]).run Try.prog w.drew= .ok (.int .i64 (n:Int)) W1:=r1
   have hsz: ∀ w:World,(Go.sizeOf 42).run Try.prog w= .ok 6 w:=by
    obtain ⟨i0,hi0,_,hsz,_⟩:=info_parts info42
    exact fun w=>by simp [Go.sizeOf,typeInfo,hi0,hsz]
   have hov:(callFunc 53 #[.slice (some ⟨g2,0,none⟩) 1 c2,.slice (some ⟨g,6,none⟩) n (cap - 1)]).run Try.prog w= .ok (.value (.bool false)) w:=by
    obtain ⟨gq,capq,cur,he,_,_,hh,_,_,hcs,_⟩:=api_Slot_35.flat.open_ ho0 (by omega)
    injection he with ha _ hcq
    injection ha with ha
    injection ha with hgq
    subst hgq hcq
    exact api_Slot_35.apart w ⟨g2,0,none⟩ ⟨g,6,none⟩ 1 c2 n (cap - 1) hne 42 42 cells2.size cur.size (by simp [World.shape?,hcell2]) (by simp [World.shape?,hh]) (by rw [hcs];show cap * 6≠0;omega) (blk_frozen hcell2 0) (blk_frozen hcell2 _)
   have hA1: ∀ W:World,(Instr.sliceAt 27 (.slice (some ⟨g,0,none⟩) n cap) none (some (.int .i64 nn)) none).run Try.prog W= .ok (.slice (some ⟨g,0,none⟩) n1 cap) W:=fun W=>api_Slot_35.cutA _ _ _ _ W (hq1 W)
   have hc0:decide (nn > (cap:Int))=false:=decide_eq_false hc1
   have HRR:=Am hR
   have HG:=Am hgr
   have HP:=Am hP0
   have HL:=Am hg
   clear hR hgr ho0 ho2 hV hC0 hB hp0_2 hp2_0 hcell2 hcell hlt hP2 hne hnc hc hP0 hg hg' hg2 hg2' r1 hsz hss hn hnn hn1
   have hw3:=HW3.out
   go_enter Try.func35,Try.ntmps35
   refine wp_seq ?_
   refine wp_region_list ?_
   refine Kd.event_run (w1:=w) (v:= .slice none 0 0) rfl TK ?_
   simp only [PT2]
   refine wpList_nil ?_
   refine wp_seq ?_
   refine wp_region_list ?_
   refine Kd.event_run (w1:=w) (v:= .slice (some ⟨g,0,none⟩) n cap) rfl TK ?_
   simp only [PT2]
   refine Kd.event_run (w1:=w) (v:= .int .i64 0) rfl TK ?_
   simp only [PT2]
   refine Kd.event_run (w1:=w) (v:= .slice (some ⟨g,0,none⟩) n cap) rfl (api_Slot_35.cut_run 27 (.tmp 10) (some (.tmp 11)) none rfl (.slice (some ⟨g,0,none⟩) n cap) TK (some (.int .i64 0)) none TK TK hA0) ?_
   simp only [PT2]
   refine wpList_nil ?_
   refine wp_seq ?_
   refine wp_region_list ?_
   refine Kd.event_run (w1:=w) (v:= .slice (some ⟨g2,0,none⟩) 1 c2) rfl TK ?_
   simp only [PT2]
   refine Kd.event_run (w1:=w) (v:= .int .i64 1) rfl TK ?_
   simp only [PT2]
   refine Kd.event_run (w1:=w) (v:= .int .i64 1) rfl TK ?_
   simp only [PT2]
   refine wpList_nil ?_
   refine wp_seq ?_
   refine wp_seq ?_
   refine wp_region_list ?_
   refine Kd.event_run (w1:=w) (v:= .int .i64 1) rfl TK ?_
   simp only [PT2]
   refine Kd.event_run (w1:=w) (v:= .bool false) rfl TK ?_
   simp only [PT2]
   refine wpList_nil ?_
   refine wp_cond_false TK ?_
   refine wp_skip ?_
   refine wp_seq ?_
   refine wp_region_list ?_
   refine Kd.event_run (w1:=w) (v:= .slice (some ⟨g,0,none⟩) n cap) rfl TK ?_
   simp only [PT2]
   refine Kd.event_run (w1:=w) (v:= .int .i64 (n:Int)) rfl TK ?_
   simp only [PT2]
   refine Kd.event_run (w1:=w) (v:= .int .i64 (n:Int)) rfl TK ?_
   simp only [PT2]
   refine wpList_nil ?_
   refine wp_seq ?_
   refine wp_seq ?_
   refine wp_region_list ?_
   refine Kd.event_run (w1:=w) (v:= .int .i64 0) rfl TK ?_
   simp only [PT2]
   refine Kd.event_run (w1:=w) (v:= .int .i64 (n:Int)) rfl TK ?_
   simp only [PT2]
   refine Kd.event_run (w1:=w) (v:= .bool false) rfl (api_Slot_35.eql_run hz2 rfl TK TK) ?_
   simp only [PT2]
   refine wpList_nil ?_
   refine wp_cond_false TK ?_
   refine wp_skip ?_
   refine wp_seq ?_
   refine wp_seq ?_
   refine wp_region_list ?_
   refine Kd.event_run (w1:=w) (v:= .int .i64 (n:Int)) rfl TK ?_
   simp only [PT2]
   refine Kd.event_run (w1:=w) (v:= .int .i64 1) rfl TK ?_
   simp only [PT2]
   refine Kd.event_run (w1:=w) (v:= .int .i64 nn) rfl (by rw [← hw3];kernel_rfl) ?_
   simp only [PT2]
   refine Kd.event_run (w1:=w) (v:= .slice (some ⟨g,0,none⟩) n cap) rfl TK ?_
   simp only [PT2]
   refine Kd.event_run (w1:=w) (v:= .int .i64 (cap:Int)) rfl TK ?_
   simp only [PT2]
   refine Kd.event_run (w1:=w) (v:= .bool false) rfl (api_Slot_35.gtr_run hc0 rfl TK TK) ?_
   simp only [PT2]
   refine wpList_nil ?_
   refine wp_cond_false TK ?_
   refine wp_skip ?_
   refine wp_seq ?_
   refine wp_region_list ?_
   refine Kd.event_run (w1:=w) (v:= .slice (some ⟨g,0,none⟩) n cap) rfl TK ?_
   simp only [PT2]
   refine Kd.event_run (w1:=w) (v:= .int .i64 (n:Int)) rfl TK ?_
   simp only [PT2]
   refine Kd.event_run (w1:=w) (v:= .int .i64 1) rfl TK ?_
   simp only [PT2]
   refine Kd.event_run (w1:=w) (v:= .int .i64 nn) rfl (by rw [← hw3];kernel_rfl) ?_
   simp only [PT2]
   refine Kd.event_run (w1:=w) (v:= .slice (some ⟨g,0,none⟩) n1 cap) rfl (api_Slot_35.cut_run 27 (.tmp 56) none (some (.tmp 59)) rfl (.slice (some ⟨g,0,none⟩) n cap) TK none (some (.int .i64 nn)) TK TK hA1) ?_
   simp only [PT2]
   refine Kd.event_run (w1:=w) (v:= .slice (some ⟨g,0,none⟩) n1 cap) rfl TK ?_
   simp only [PT2]
   refine wpList_nil ?_
   refine wp_seq ?_
   refine wp_seq ?_
   refine wp_region_list ?_
   refine Kd.event_run (w1:=w) (v:= .slice (some ⟨g2,0,none⟩) 1 c2) rfl TK ?_
   simp only [PT2]
   refine Kd.event_run (w1:=w) (v:= .slice (some ⟨g,0,none⟩) n1 cap) rfl TK ?_
   simp only [PT2]
   refine Kd.event_run (w1:=w) (v:= .int .i64 0) rfl TK ?_
   simp only [PT2]
   refine Kd.event_run (w1:=w) (v:= .int .i64 1) rfl TK ?_
   simp only [PT2]
   refine Kd.event_run (w1:=w) (v:= .int .i64 1) rfl TK ?_
   simp only [PT2]
   refine Kd.event_run (w1:=w) (v:= .slice (some ⟨g,6,none⟩) n (cap - 1)) rfl (api_Slot_35.cut_run 27 (.tmp 62) (some (.tmp 65)) none rfl (.slice (some ⟨g,0,none⟩) n1 cap) TK (some (.int .i64 1)) none TK TK hq3) ?_
   simp only [PT2]
   refine Kd.event_run (w1:=w) (v:= .bool false) rfl (api_Slot_35.over_run (.tmp 61) (.tmp 66) (.slice (some ⟨g2,0,none⟩) 1 c2) (.slice (some ⟨g,6,none⟩) n (cap - 1)) rfl TK TK hov) ?_
   simp only [PT2]
   refine Kd.event_run (w1:=w) (v:= .bool true) rfl TK ?_
   simp only [PT2]
   refine wpList_nil ?_
   refine wp_cond_true TK ?_
   refine wp_seq ?_
   refine start_ (n:=9) (S:=fun w'=>True) (ds:=[]) (bl 9 0) TK rfl rfl trivial (fun hHeld=>?_)
   refine pure_ (i:=0) (N:=some 69) (v:= .slice (some ⟨g,0,none⟩) n1 cap) (bl 9 1) rfl rfl TK (fun _ _ _ h=>h) (Or.inl ⟨by rfl,fun w'=>by kernel_rfl⟩) rfl ?_
   simp only [PT2]
   refine pure_ (i:=1) (N:=some 70) (v:= .int .i64 0) (bl 9 3) rfl rfl TK (fun _ _ _ h=>h) (Or.inl ⟨by rfl,fun w'=>by kernel_rfl⟩) rfl ?_
   simp only [PT2]
   refine pure_ (i:=2) (N:=some 71) (v:= .int .i64 1) (bl 9 7) rfl rfl TK (fun _ _ _ h=>h) (Or.inl ⟨by rfl,fun w'=>by kernel_rfl⟩) rfl ?_
   simp only [PT2]
   refine pure_ (i:=3) (N:=some 72) (v:= .int .i64 1) (bl 9 15) rfl rfl TK (fun _ _ _ h=>h) (Or.inl ⟨by rfl,fun w'=>by kernel_rfl⟩) rfl ?_
   simp only [PT2]
   refine pure_ (i:=4) (N:=some 73) (v:= .slice (some ⟨g,6,none⟩) n (cap - 1)) (bl 9 31) rfl rfl TK (fun _ _ _ h=>h) (Or.inl ⟨by rfl,fun w'=>api_Slot_35.cut_run 27 (.tmp 69) (some (.tmp 72)) none rfl (.slice (some ⟨g,0,none⟩) n1 cap) TK (some (.int .i64 1)) none TK TK hq3⟩) rfl ?_
   simp only [PT2]
   refine pure_ (i:=5) (N:=some 74) (v:= .slice (some ⟨g,0,none⟩) n1 cap) (bl 9 63) rfl rfl TK (fun _ _ _ h=>h) (Or.inl ⟨by rfl,fun w'=>by kernel_rfl⟩) rfl ?_
   simp only [PT2]
   refine pure_ (i:=6) (N:=some 75) (v:= .int .i64 0) (bl 9 127) rfl rfl TK (fun _ _ _ h=>h) (Or.inl ⟨by rfl,fun w'=>by kernel_rfl⟩) rfl ?_
   simp only [PT2]
   refine pure_ (i:=7) (N:=some 76) (v:= .slice (some ⟨g,0,none⟩) n1 cap) (bl 9 255) rfl rfl TK (fun _ _ _ h=>h) (Or.inl ⟨by rfl,fun w'=>api_Slot_35.cut_run 27 (.tmp 74) (some (.tmp 75)) none rfl (.slice (some ⟨g,0,none⟩) n1 cap) TK (some (.int .i64 0)) none TK TK hq4⟩) rfl ?_
   simp only [PT2]
   refine one_ (i:=8) (N:=some 77) (bl 9 511) rfl rfl TK (by decide) (fun K hK=>?_)
   refine copy_step rfl (.tmp 73) (.tmp 76) 27 27 rfl (.slice (some ⟨g,6,none⟩) n (cap - 1)) (.slice (some ⟨g,0,none⟩) n1 cap) TK TK r1' ?_
   refine hK.out _ _ trivial (fun hHeld=>?_)
   clear hK K
   refine norm_ (a':=?_) ?_ ?_
   rotate_left
   ·
    show Act.put _ (some 77) _=_
    simp only [PT2]
    rfl
   refine done_ TK ?_
   refine wp_seq ?_
   refine wp_region_list ?_
   refine Kd.event_run (w1:=W1) (v:= .slice (some ⟨g,0,none⟩) n1 cap) rfl TK ?_
   simp only [PT2]
   refine Kd.event_run (w1:=W1) (v:= .int .i64 0) rfl TK ?_
   simp only [PT2]
   refine Kd.event_run (w1:=W1) (v:= .slice (some ⟨g,0,none⟩) n1 cap) rfl (api_Slot_35.cut_run 27 (.tmp 78) (some (.tmp 79)) none rfl (.slice (some ⟨g,0,none⟩) n1 cap) TK (some (.int .i64 0)) none TK TK hq4) ?_
   simp only [PT2]
   refine Kd.event_run (w1:=W1) (v:= .slice (some ⟨g2,0,none⟩) 1 c2) rfl TK ?_
   simp only [PT2]
   refine copy_event rfl (.tmp 80) (.tmp 81) 27 27 rfl (.slice (some ⟨g,0,none⟩) n1 cap) (.slice (some ⟨g2,0,none⟩) 1 c2) TK TK r2 ?_
   simp only [PT2]
   refine wpList_nil ?_
   refine wp_seq ?_
   refine wp_region_list ?_
   refine Kd.event_run (w1:=W2) (v:= .slice (some ⟨g,0,none⟩) n1 cap) rfl TK ?_
   simp only [PT2]
   refine Kd.event_run (w1:=W2) (v:= .slice (some ⟨g,0,none⟩) n1 cap) rfl TK ?_
   simp only [PT2]
   refine wpList_nil ?_
   refine wp_ret ?_
   clear hw3
   go_ret
   have hk1: ∀ k,some g=some k→w0.heap.size≤k:=fun k hk=>Option.some.inj hk▸HL.out
   have hk2: ∀ k,some g=some k→P0_ k∨P2_ k:=fun k hk=>Option.some.inj hk▸ .inl HP.out
   exact ⟨_,rfl,Kd.R_mono HRR.out (fun k hk=> .inl (.inl hk)),HB.out.grown HG.out HB.out.size hk1,Kept.of_grown HG.out (Kept.refl _ _) (fun k hk=> .inl (hk2 k hk))⟩
end
mutual
def place_laid_text.l0:Nat→Int→List (S42)→List (S40)→List Int→List Int→Int→Int→Int→Int→Int→Int→Int→List (S40)→List Int→Int→Option ((List (S42)))
 | 0,_,_,_,_,_,_,_,_,_,_,_,_,_,_,_=>none
 | k+1,x1,x5,x6,x7,x19,x20,x21,x186000,x186001,x186002,x186003,x186004,x186005,x186006,x186007=>if x21 < x20 then (if 0≤x21 then (if x21 < (x19.length:Int) then (if 0≤(rd x19 x21) then (if (rd x19 x21) < (x6.length:Int) then (place_laid_text.l1 k x1 x5 x6 x7 (rd x19 x21) x19 x20 x21 ((rd_T40 x6 (rd x19 x21)).f4) 0 x186000 x186001 x186002 x186003 x186004 x186005 x186006 x186007 ((rd_T40 x6 (rd x19 x21)).f0) ((rd_T40 x6 (rd x19 x21)).f1) ((rd_T40 x6 (rd x19 x21)).f2) ((rd_T40 x6 (rd x19 x21)).f3) ((rd_T40 x6 (rd x19 x21)).f4) ((rd_T40 x6 (rd x19 x21)).f5)) else (none)) else (none)) else (none)) else (none)) else (if x186004=1 then (if x1=1 then ((api_Slot_35.f x5 0 (([(⟨3,0,0,0,0,0⟩:S42)]:List (S42)))).bind fun t207=>(some t207)) else (if x5.length < 2932031007402 then (some (x5++[(⟨3,0,0,0,0,0⟩:S42)])) else (none))) else (some x5))
def place_laid_text.l1:Nat→Int→List (S42)→List (S40)→List Int→Int→List Int→Int→Int→Int→Int→Int→Int→Int→Int→Int→List (S40)→List Int→Int→Int→Int→Int→Int→Int→Int→Option ((List (S42)))
 | 0,_,_,_,_,_,_,_,_,_,_,_,_,_,_,_,_,_,_,_,_,_,_,_,_=>none
 | k+1,x1,x5,x6,x7,x9,x19,x20,x21,x30,x31,x186000,x186001,x186002,x186003,x186004,x186005,x186006,x186007,x198000,x198001,x198002,x198003,x198004,x198005=>if x31 < x30 then (if 0≤x9 then (if x9 < (x7.length:Int) then ((bidi_Shown.f x198005 (rd x7 x9)).bind fun t199=>(if x5.length < 2932031007402 then (place_laid_text.l1 k x1 (x5++[(⟨4,0,0,x198000,x31,t199⟩:S42)]) x6 x7 x9 x19 x20 x21 x30 (wrap64 (x31+1)) x186000 x186001 x186002 x186003 x186004 x186005 x186006 x186007 x198000 x198001 x198002 x198003 x198004 x198005) else (none))) else (none)) else (none)) else (place_laid_text.l0 k x1 x5 x6 x7 x19 x20 (wrap64 (x21+1)) x186000 x186001 x186002 x186003 x186004 x186005 x186006 x186007)
end
def place_laid_text.f (k:Nat) (a0_0:Int) (a0_1:Int) (a0_2:Int) (a0_3:Int) (a0_4:Int) (l0_5:List (S40)) (l0_6:List Int) (a0_7:Int) (a1:Int):Option ((List (S42))):=(place_laid_seen.f k a0_0 a0_1 a0_2 a0_3 a0_4 l0_5 l0_6 a0_7).bind fun bt186=>((bidi_Order.f k bt186.2).bind fun t192=>(place_laid_text.l0 k a1 ([]:List (S42)) bt186.1 bt186.2 t192 (t192.length:Int) 0 a0_0 a0_1 a0_2 a0_3 a0_4 l0_5 l0_6 a0_7))
theorem place_laid_text.mono_l: ∀ k,(∀ y0 y1 y2 y3 y4 y5 y6 y7 y8 y9 y10 y11 y12 y13 y14,LeO (place_laid_text.l0 k y0 y1 y2 y3 y4 y5 y6 y7 y8 y9 y10 y11 y12 y13 y14) (place_laid_text.l0 (k+1) y0 y1 y2 y3 y4 y5 y6 y7 y8 y9 y10 y11 y12 y13 y14))∧(∀ y0 y1 y2 y3 y4 y5 y6 y7 y8 y9 y10 y11 y12 y13 y14 y15 y16 y17 y18 y19 y20 y21 y22 y23,LeO (place_laid_text.l1 k y0 y1 y2 y3 y4 y5 y6 y7 y8 y9 y10 y11 y12 y13 y14 y15 y16 y17 y18 y19 y20 y21 y22 y23) (place_laid_text.l1 (k+1) y0 y1 y2 y3 y4 y5 y6 y7 y8 y9 y10 y11 y12 y13 y14 y15 y16 y17 y18 y19 y20 y21 y22 y23))
 | 0=>⟨fun _ _ _ _ _ _ _ _ _ _ _ _ _ _ _ r h=>by simp [place_laid_text.l0] at h,fun _ _ _ _ _ _ _ _ _ _ _ _ _ _ _ _ _ _ _ _ _ _ _ _ r h=>by simp [place_laid_text.l1] at h⟩
 | k+1=>by
  obtain ⟨ih0,ih1⟩:=place_laid_text.mono_l k
  refine ⟨?_,?_⟩
  ·
   intros
   unfold place_laid_text.l0
   have j0:=@bidi_Order.mono
   have j1:=@place_laid_seen.mono
   exact TL
  ·
   intros
   unfold place_laid_text.l1
   have j0:=@bidi_Order.mono
   have j1:=@place_laid_seen.mono
   exact TL
theorem place_laid_text.mono: ∀ a0 a1 a2 a3 a4 a5 a6 a7 a8 k,LeO (place_laid_text.f k a0 a1 a2 a3 a4 a5 a6 a7 a8) (place_laid_text.f (k+1) a0 a1 a2 a3 a4 a5 a6 a7 a8):=by
 intro a0 a1 a2 a3 a4 a5 a6 a7 a8 k
 obtain ⟨ih0,ih1⟩:=place_laid_text.mono_l k
 unfold place_laid_text.f
 repeat' first
   | (with_reducible exact ih0 _ _ _ _ _ _ _ _ _ _ _ _ _ _ _)
   | (with_reducible exact ih1 _ _ _ _ _ _ _ _ _ _ _ _ _ _ _ _ _ _ _ _ _ _ _ _)
   | (with_reducible exact bidi_Order.mono _ _)
   | (with_reducible exact place_laid_seen.mono _ _ _ _ _ _ _ _ _)
   | (with_reducible exact LeO.refl _)
   | (with_reducible exact LeO.none _)
   | (with_reducible refine LeO.ite ?_ ?_)
   | (with_reducible refine LeO.bind ?_ (fun _=>?_))
def place_laid_text.T10:Bool × List (List Nat × List Nat):=(true,[([],[]),([],[]),([1],[1]),([],[]),([],[]),([4],[4]),([],[]),([],[]),([6,7],[6,7]),([8],[8]),([5,9],[5,9]),([2,3,10],[2,3,10]),([11],[11]),([0,12,10],[0,12]),([13,13,0,1,2,3,4,5,6,7,8,9,10,11,12,13],[0,13])])
def place_laid_text.B10:List Nat:=[0,0,2,0,0,16,0,0,192,448,1008,2046,4094,8191,16383]
theorem place_laid_text.tab10:rtab .any (opsOf Try.f18 10)=place_laid_text.T10:=by kernel_rfl
theorem place_laid_text.bits10:waitsOk place_laid_text.T10.2 place_laid_text.B10=true:=by kernel_rfl
set_option maxHeartbeats 8000000 in
theorem place_laid_text.calls (k:Nat) (a0_0:Int) (a0_1:Int) (a0_2:Int) (a0_3:Int) (a0_4:Int) (A0_5:Option Addr) (c0_5:Nat) (l0_5:List (S40)) (A0_6:Option Addr) (c0_6:Nat) (l0_6:List Int) (a0_7:Int) (a1:Int) (r:List (S42)) (w:World) (hr0_5:Kd.C k40 w A0_5 l0_5.length l0_5) (hc0_5:l0_5.length≤c0_5) (hr0_6:Kd.C (Kd.int .i64) w A0_6 l0_6.length l0_6) (hc0_6:l0_6.length≤c0_6) (h:place_laid_text.f k a0_0 a0_1 a0_2 a0_3 a0_4 l0_5 l0_6 a0_7 a1=some r) :
  Calls Try.prog 18 #[.agg #[.int .i64 a0_0,.int .i64 a0_1,.int .i64 a0_2,.int .i64 a0_3,.int .i64 a0_4,.slice A0_5 l0_5.length c0_5,.slice A0_6 l0_6.length c0_6,.int .i64 a0_7],.int .i64 a1] w fun e w'=> ∃ v0_:Value,e= .returned (v0_)∧Kd.R k42 42 w' w.heap.size (fun _=>True) v0_ r∧Below w.heap.size w w':=by
 have hu50:=Try.underlying50
 have hu40:=Try.underlying40
 have hu42:=Try.underlying42
 have HR0_5:=Am hr0_5
 have HC0_5:=Am hc0_5
 clear hr0_5 hc0_5
 have HR0_6:=Am hr0_6
 have HC0_6:=Am hc0_6
 clear hr0_6 hc0_6
 have HB:=Am (Below.refl w.heap.size w)
 have H:((place_laid_seen.f k a0_0 a0_1 a0_2 a0_3 a0_4 l0_5 l0_6 a0_7).bind fun bt186=>((bidi_Order.f k bt186.2).bind fun t192=>(place_laid_text.l0 k a1 ([]:List (S42)) bt186.1 bt186.2 t192 (t192.length:Int) 0 a0_0 a0_1 a0_2 a0_3 a0_4 l0_5 l0_6 a0_7)))=some r:=h
 clear h
 replace H:=Option.bind_eq_some_iff.mp H
 obtain ⟨⟨t186,t189⟩,A30,H⟩:=H
 try dsimp only at H
 have A3:=Am A30
 clear A30
 obtain ⟨t192,A40,H⟩:=Option.bind_eq_some_iff.mp H
 try dsimp only at H
 have A4:=Am A40
 clear A40
 have H':=Am H
 clear H
 go_enter Try.func18,Try.ntmps18
 try dsimp only [List.append]
 go_wp2_with (first|((with_reducible refine gate_dst (N:=2) rfl ?_);refine box_event ?hg (N:=2) ?hd (cs:= #[.int .i64 a0_0,.int .i64 a0_1,.int .i64 a0_2,.int .i64 a0_3,.int .i64 a0_4,.slice A0_5 l0_5.length c0_5,.slice A0_6 l0_6.length c0_6,.int .i64 a0_7]) (t:=50) ?hr ?_;(case hd=>rfl);(case hg=>rfl);(case hr=>exact TG);intro gb185 hg w5 hbox hb;have BK185:=Am (hbox);have GW185:=Am (gwS hg);have GE185:=Am (gwS hg);replace HB:=Am (below_step TB hb);clear hb hbox hg;obtain ⟨hcz6_0,hcz6_1,hcz6_2,hcz6_3,hcz6_4,hcz6_5,hcz6_6,hcz6_7⟩:=blkC8 BK185.out;obtain ⟨hfz6_0,hfz6_1,hfz6_2,hfz6_3,hfz6_4,hfz6_5,hfz6_6,hfz6_7⟩:=blkF8 BK185.out)|((with_reducible refine gate_callee (f:=32) rfl ?_);refine goesL_ (some 15) rfl rfl Try.func32 TK rfl #[.agg #[.int .i64 a0_0,.int .i64 a0_1,.int .i64 a0_2,.int .i64 a0_3,.int .i64 a0_4,.slice A0_5 l0_5.length c0_5,.slice A0_6 l0_6.length c0_6,.int .i64 a0_7]] rfl TM ?_;(with_reducible refine (place_laid_seen.calls k a0_0 a0_1 a0_2 a0_3 a0_4 _ _ l0_5 _ _ l0_6 a0_7 t186 t189 _ ?side1 ?side2 ?side3 ?side4 A3.out).mono ?_);(case side1=>exact CU (Kd.C_below HR0_5.out HB.out));(case side2=>exact HC0_5.out);(case side3=>exact CU (Kd.C_below HR0_6.out HB.out));(case side4=>exact HC0_6.out);rintro e w7 ⟨v187,v190,rfl,ho0,ho1,hb⟩;refine ⟨_,rfl,?_⟩;have HO188:=Am (Kd.R_lower ho0 (below_size TB));have HO191:=Am (Kd.R_lower ho1 (below_size TB));replace BK185:=Am (blk_below (blkU BK185.out) hb);replace HB:=Am (below_step TB hb);(try clear hb);(try clear hb2);(try clear hk);(try clear hi);(try clear ho0);(try clear ho1);obtain ⟨Ao8,co8,eo8⟩:=Kd.R_slice HO191.out;subst eo8)|((with_reducible refine gate_callee (f:=33) rfl ?_);refine goesL_ (some 19) rfl rfl Try.func33 TK rfl #[.slice Ao8 t189.length co8] rfl TM ?_;(with_reducible refine (bidi_Order.calls k _ _ t189 t192 _ ?side1 ?side2 A4.out).mono ?_);(case side1=>exact CU ((Kd.R_reads' HO191.out).2.2));(case side2=>exact (Kd.R_reads' HO191.out).2.1);rintro e w9 ⟨v193,rfl,ho0,hb⟩;refine ⟨_,rfl,?_⟩;replace HO188:=Am (Kd.R_below (RU HO188.out) hb);have HO194:=Am (Kd.R_lower (Kd.R_new' ho0 (Kd.R_lt (RU HO191.out))) (below_size TB));replace HO191:=Am (Kd.R_elder' (RU HO191.out) (Kd.R_base ho0) hb);replace BK185:=Am (blk_below (blkU BK185.out) hb);replace HB:=Am (below_step TB hb);(try clear hb);(try clear hb2);(try clear hk);(try clear hi);(try clear ho0);obtain ⟨Ao10,co10,eo10⟩:=Kd.R_slice HO194.out;subst eo10))
 go_loopg [5,21] k (fun kq v5 v21 w'=> ∃ (x5_1:List (S42)) (x21_1:Int),v21= .int .i64 x21_1∧Aside0 (place_laid_text.l0 kq a1 x5_1 t186 t189 t192 (t192.length:Int) x21_1 a0_0 a0_1 a0_2 a0_3 a0_4 l0_5 l0_6 a0_7=some r)∧Aside0 (kq≤k)∧Aside0 (Kd.R k42 42 w' w.heap.size (fun _=>True) v5 x5_1)∧Aside0 (Kd.R k40 40 w' w.heap.size (fun _=>True) v187 t186)∧Aside0 (Kd.R (Kd.int .i64) 3 w' w.heap.size (fun k_=>some k_≠((.slice Ao10 t192.length co10):Value).ownBlock) (.slice Ao8 t189.length co8) t189)∧Aside0 (Kd.R (Kd.int .i64) 3 w' w.heap.size (fun k_=>some k_≠((.slice Ao8 t189.length co8):Value).ownBlock) (.slice Ao10 t192.length co10) t192)∧Aside0 (w'.heap[gb185]?=some (.cells #[.int .i64 a0_0,.int .i64 a0_1,.int .i64 a0_2,.int .i64 a0_3,.int .i64 a0_4,(.slice A0_5 l0_5.length c0_5),(.slice A0_6 l0_6.length c0_6),.int .i64 a0_7] 50 (0,0)))∧Aside0 (Below w.heap.size w w'))
 case atStart=>exact ⟨(([]:List (S42))),(0),TS,H',⟨Nat.le_refl _⟩,⟨by first|exact Kd.R_nil _ _ _ _ _|exact Kd.N_nil _ _ _ _ _|exact Kd.V_nil _ _ _ _ _|exact Kd.Q_nil _ _ _ _ _|exact Kd.S_nil _ _ _ _ _⟩,⟨RU HO188.out⟩,⟨RU (Kd.R_mono HO191.out (fun _ hk=>hk.2))⟩,⟨RU (Kd.R_mono HO194.out (fun _ hk=>hk.2))⟩,⟨blkU BK185.out⟩,⟨TB⟩⟩
 case round =>
  clear H'
  obtain ⟨x5_1,x21_1,rfl,HA,HK1,HO_5,HO_6,HO_7,HO_19,BK185,HB⟩:=hrel
  cases gk with
  | zero=>exact absurd HA.out (by simp [place_laid_text.l0])
  | succ k1 =>
   have H:=HA.out
   clear HA
   simp only [place_laid_text.l0] at H
   by_cases c11:x21_1 < (t192.length:Int)
   ·
    rw [if_pos c11] at H
    have c11b0:decide (x21_1 < (t192.length:Int))=true:=decide_eq_true c11
    clear c11
    obtain ⟨c12,H⟩:=ifS H
    have c12b0:decide (0≤x21_1)=true:=decide_eq_true c12
    clear c12
    obtain ⟨c13,H⟩:=ifS H
    have c13b0:decide (x21_1 < (t192.length:Int))=true:=decide_eq_true c13
    clear c13
    obtain ⟨c14,H⟩:=ifS H
    have c14b0:decide (0≤(rd t192 x21_1))=true:=decide_eq_true c14
    clear c14
    obtain ⟨c15,H⟩:=ifS H
    have c15b0:decide ((rd t192 x21_1) < (t186.length:Int))=true:=decide_eq_true c15
    clear c15
    have H':=Am H
    clear H
    have p195:0≤(x21_1:Int):=tD
    have q195:x21_1 < (t192.length:Int):=tD
    obtain ⟨ad195,e195,hx195_0⟩:=Kd.at_int (Kd.R_reads' HO_19.out).2.2 x21_1 p195 q195
    cases e195
    replace p195:=eq_true p195
    replace q195:=eq_true q195
    obtain ⟨Ao16,co16,eo16⟩:=Kd.R_slice HO_6.out
    subst eo16
    have p196:0≤((rd t192 x21_1):Int):=tD
    have q196:(rd t192 x21_1) < (t186.length:Int):=tD
    obtain ⟨ad196,e196,hx196_0,hx196_1,hx196_2,hx196_3,hx196_4,hx196_5⟩:=at_T40 (Kd.R_reads' HO_6.out).2.2 (rd t192 x21_1) p196 q196
    cases e196
    replace p196:=eq_true p196
    replace q196:=eq_true q196
    go_wp2_with (first|((with_reducible refine gate_dst (N:=10) rfl ?_);refine box_event ?hg (N:=10) ?hd (cs:= #[.int .i64 0,.int .i64 0,.int .i64 0,.int .i64 0,.int .i64 0,.int .i64 0]) (t:=40) ?hr ?_;(case hd=>rfl);(case hg=>rfl);(case hr=>exact TG);intro gb197 hg w17 hbox hb;replace HO_5:=Am (Kd.R_below (RU HO_5.out) hb);replace HO_6:=Am (Kd.R_below (Kd.R_elderB (RU HO_6.out) gb197 (Nat.le_of_eq hg.symm)) hb);replace HO_7:=Am (Kd.R_below (RU HO_7.out) hb);replace HO_19:=Am (Kd.R_below (RU HO_19.out) hb);have BK197:=Am (hbox);have GW197:=Am (gwS hg);have GE197:=Am (gwS hg);have NB185_197:=Am (ltS hg (blkU BK185.out));have NB197_185:=Am (gtS hg (blkU BK185.out));replace BK185:=Am (blk_below (blkU BK185.out) hb);replace HB:=Am (below_step TB hb);clear hb hbox hg;have hnb18:=NB197_185.out;have hnc18:=NB185_197.out;obtain ⟨hcz19_0,hcz19_1,hcz19_2,hcz19_3,hcz19_4,hcz19_5⟩:=blkC6 BK197.out;obtain ⟨hfz19_0,hfz19_1,hfz19_2,hfz19_3,hfz19_4,hfz19_5⟩:=blkF6 BK197.out))
    go_loopg [5,31] k1 (fun kq v5 v31 w'=> ∃ (x5_2:List (S42)) (x31_2:Int),v31= .int .i64 x31_2∧Aside0 (place_laid_text.l1 kq a1 x5_2 t186 t189 (rd t192 x21_1) t192 (t192.length:Int) x21_1 ((rd_T40 t186 (rd t192 x21_1)).f4) x31_2 a0_0 a0_1 a0_2 a0_3 a0_4 l0_5 l0_6 a0_7 ((rd_T40 t186 (rd t192 x21_1)).f0) ((rd_T40 t186 (rd t192 x21_1)).f1) ((rd_T40 t186 (rd t192 x21_1)).f2) ((rd_T40 t186 (rd t192 x21_1)).f3) ((rd_T40 t186 (rd t192 x21_1)).f4) ((rd_T40 t186 (rd t192 x21_1)).f5)=some r)∧Aside0 (kq≤k1)∧Aside0 (Kd.R k42 42 w' w.heap.size (fun _=>True) v5 x5_2)∧Aside0 (Kd.R k40 40 w' w.heap.size (fun k_=>k_≠gb197) (.slice (some ad196) t186.length co16) t186)∧Aside0 (Kd.R (Kd.int .i64) 3 w' w.heap.size (fun k_=>some k_≠((.slice (some ad195) t192.length co10):Value).ownBlock) (.slice Ao8 t189.length co8) t189)∧Aside0 (Kd.R (Kd.int .i64) 3 w' w.heap.size (fun k_=>some k_≠((.slice Ao8 t189.length co8):Value).ownBlock) (.slice (some ad195) t192.length co10) t192)∧Aside0 (w'.heap[gb185]?=some (.cells #[.int .i64 a0_0,.int .i64 a0_1,.int .i64 a0_2,.int .i64 a0_3,.int .i64 a0_4,(.slice A0_5 l0_5.length c0_5),(.slice A0_6 l0_6.length c0_6),.int .i64 a0_7] 50 (0,0)))∧Aside0 (w'.heap[gb197]?=some (.cells #[.int .i64 ((rd_T40 t186 (rd t192 x21_1)).f0),.int .i64 ((rd_T40 t186 (rd t192 x21_1)).f1),.int .i64 ((rd_T40 t186 (rd t192 x21_1)).f2),.int .i64 ((rd_T40 t186 (rd t192 x21_1)).f3),.int .i64 ((rd_T40 t186 (rd t192 x21_1)).f4),.int .i64 ((rd_T40 t186 (rd t192 x21_1)).f5)] 40 (0,0)))∧Aside0 (Below w.heap.size w w'))
    case atStart=>exact ⟨(x5_1),(0),TS,H',⟨Nat.le_refl _⟩,⟨RU (Kd.R_mono (Kd.R_far (p:=⟨gb197,5,none⟩) (Kd.R_far (p:=⟨gb197,4,none⟩) (Kd.R_far (p:=⟨gb197,3,none⟩) (Kd.R_far (p:=⟨gb197,2,none⟩) (Kd.R_far (p:=⟨gb197,1,none⟩) (Kd.R_far (p:=⟨gb197,0,none⟩) (Kd.R_types HO_5.out BK197.out (by decide)) (fun _ hk=>hk.2) (.int .i64 ((rd_T40 t186 (rd t192 x21_1)).f0))) (fun _ hk=>hk.2) (.int .i64 ((rd_T40 t186 (rd t192 x21_1)).f1))) (fun _ hk=>hk.2) (.int .i64 ((rd_T40 t186 (rd t192 x21_1)).f2))) (fun _ hk=>hk.2) (.int .i64 ((rd_T40 t186 (rd t192 x21_1)).f3))) (fun _ hk=>hk.2) (.int .i64 ((rd_T40 t186 (rd t192 x21_1)).f4))) (fun _ hk=>hk.2) (.int .i64 ((rd_T40 t186 (rd t192 x21_1)).f5))) (fun _ hk=>trivial))⟩,⟨RU (Kd.R_mono (Kd.R_far (p:=⟨gb197,5,none⟩) (Kd.R_far (p:=⟨gb197,4,none⟩) (Kd.R_far (p:=⟨gb197,3,none⟩) (Kd.R_far (p:=⟨gb197,2,none⟩) (Kd.R_far (p:=⟨gb197,1,none⟩) (Kd.R_far (p:=⟨gb197,0,none⟩) (Kd.R_mono HO_6.out (fun k_ hk=>(⟨hk,hk.2⟩:_∧k_≠gb197))) (fun _ hk=>hk.2) (.int .i64 ((rd_T40 t186 (rd t192 x21_1)).f0))) (fun _ hk=>hk.2) (.int .i64 ((rd_T40 t186 (rd t192 x21_1)).f1))) (fun _ hk=>hk.2) (.int .i64 ((rd_T40 t186 (rd t192 x21_1)).f2))) (fun _ hk=>hk.2) (.int .i64 ((rd_T40 t186 (rd t192 x21_1)).f3))) (fun _ hk=>hk.2) (.int .i64 ((rd_T40 t186 (rd t192 x21_1)).f4))) (fun _ hk=>hk.2) (.int .i64 ((rd_T40 t186 (rd t192 x21_1)).f5))) (fun _ hk=>hk.1.2))⟩,⟨RU (Kd.R_mono (Kd.R_far (p:=⟨gb197,5,none⟩) (Kd.R_far (p:=⟨gb197,4,none⟩) (Kd.R_far (p:=⟨gb197,3,none⟩) (Kd.R_far (p:=⟨gb197,2,none⟩) (Kd.R_far (p:=⟨gb197,1,none⟩) (Kd.R_far (p:=⟨gb197,0,none⟩) (Kd.R_types HO_7.out BK197.out (by decide)) (fun _ hk=>hk.2) (.int .i64 ((rd_T40 t186 (rd t192 x21_1)).f0))) (fun _ hk=>hk.2) (.int .i64 ((rd_T40 t186 (rd t192 x21_1)).f1))) (fun _ hk=>hk.2) (.int .i64 ((rd_T40 t186 (rd t192 x21_1)).f2))) (fun _ hk=>hk.2) (.int .i64 ((rd_T40 t186 (rd t192 x21_1)).f3))) (fun _ hk=>hk.2) (.int .i64 ((rd_T40 t186 (rd t192 x21_1)).f4))) (fun _ hk=>hk.2) (.int .i64 ((rd_T40 t186 (rd t192 x21_1)).f5))) (fun _ hk=>hk.1))⟩,⟨RU (Kd.R_mono (Kd.R_far (p:=⟨gb197,5,none⟩) (Kd.R_far (p:=⟨gb197,4,none⟩) (Kd.R_far (p:=⟨gb197,3,none⟩) (Kd.R_far (p:=⟨gb197,2,none⟩) (Kd.R_far (p:=⟨gb197,1,none⟩) (Kd.R_far (p:=⟨gb197,0,none⟩) (Kd.R_types HO_19.out BK197.out (by decide)) (fun _ hk=>hk.2) (.int .i64 ((rd_T40 t186 (rd t192 x21_1)).f0))) (fun _ hk=>hk.2) (.int .i64 ((rd_T40 t186 (rd t192 x21_1)).f1))) (fun _ hk=>hk.2) (.int .i64 ((rd_T40 t186 (rd t192 x21_1)).f2))) (fun _ hk=>hk.2) (.int .i64 ((rd_T40 t186 (rd t192 x21_1)).f3))) (fun _ hk=>hk.2) (.int .i64 ((rd_T40 t186 (rd t192 x21_1)).f4))) (fun _ hk=>hk.2) (.int .i64 ((rd_T40 t186 (rd t192 x21_1)).f5))) (fun _ hk=>hk.1))⟩,⟨by refine blk_far ?_ NB185_197.out _;refine blk_far ?_ NB185_197.out _;refine blk_far ?_ NB185_197.out _;refine blk_far ?_ NB185_197.out _;refine blk_far ?_ NB185_197.out _;refine blk_far ?_ NB185_197.out _;exact BK185.out⟩,⟨by refine blk_put (cs:= #[.int .i64 ((rd_T40 t186 (rd t192 x21_1)).f0),.int .i64 ((rd_T40 t186 (rd t192 x21_1)).f1),.int .i64 ((rd_T40 t186 (rd t192 x21_1)).f2),.int .i64 ((rd_T40 t186 (rd t192 x21_1)).f3),.int .i64 ((rd_T40 t186 (rd t192 x21_1)).f4),.int .i64 0]) ?_ 5 _ rfl;refine blk_put (cs:= #[.int .i64 ((rd_T40 t186 (rd t192 x21_1)).f0),.int .i64 ((rd_T40 t186 (rd t192 x21_1)).f1),.int .i64 ((rd_T40 t186 (rd t192 x21_1)).f2),.int .i64 ((rd_T40 t186 (rd t192 x21_1)).f3),.int .i64 0,.int .i64 0]) ?_ 4 _ rfl;refine blk_put (cs:= #[.int .i64 ((rd_T40 t186 (rd t192 x21_1)).f0),.int .i64 ((rd_T40 t186 (rd t192 x21_1)).f1),.int .i64 ((rd_T40 t186 (rd t192 x21_1)).f2),.int .i64 0,.int .i64 0,.int .i64 0]) ?_ 3 _ rfl;refine blk_put (cs:= #[.int .i64 ((rd_T40 t186 (rd t192 x21_1)).f0),.int .i64 ((rd_T40 t186 (rd t192 x21_1)).f1),.int .i64 0,.int .i64 0,.int .i64 0,.int .i64 0]) ?_ 2 _ rfl;refine blk_put (cs:= #[.int .i64 ((rd_T40 t186 (rd t192 x21_1)).f0),.int .i64 0,.int .i64 0,.int .i64 0,.int .i64 0,.int .i64 0]) ?_ 1 _ rfl;refine blk_put (cs:= #[.int .i64 0,.int .i64 0,.int .i64 0,.int .i64 0,.int .i64 0,.int .i64 0]) ?_ 0 _ rfl;exact BK197.out⟩,⟨TB⟩⟩
    case round =>
     clear H'
     obtain ⟨x5_2,x31_2,rfl,HA,HK2,HO_5,HO_6,HO_7,HO_19,BK185,BK197,HB⟩:=hrel
     cases gk with
     | zero=>exact absurd HA.out (by simp [place_laid_text.l1])
     | succ k2 =>
      have H:=HA.out
      clear HA
      simp only [place_laid_text.l1] at H
      by_cases c20:x31_2 < ((rd_T40 t186 (rd t192 x21_1)).f4)
      rotate_left
      ·
       rw [if_neg c20] at H
       have c20b0:decide (x31_2 < ((rd_T40 t186 (rd t192 x21_1)).f4))=false:=decide_eq_false c20
       clear c20
       have H':=Am H
       clear H
       go_wp2
       go_roundg k2
       case measure=>have:=HK1.out;have:=HK2.out;omega
       case rel=>exact ⟨(x5_2),(wrap64 (x21_1+1)),TS,H',⟨by have:=HK1.out;have:=HK2.out;omega⟩,⟨RU HO_5.out⟩,⟨RU (Kd.R_mono HO_6.out (fun _ hk=>trivial))⟩,⟨RU HO_7.out⟩,⟨RU HO_19.out⟩,⟨blkU BK185.out⟩,⟨TB⟩⟩
      rw [if_pos c20] at H
      have c20b0:decide (x31_2 < ((rd_T40 t186 (rd t192 x21_1)).f4))=true:=decide_eq_true c20
      clear c20
      obtain ⟨c21,H⟩:=ifS H
      have c21b0:decide (0≤(rd t192 x21_1))=true:=decide_eq_true c21
      clear c21
      obtain ⟨c22,H⟩:=ifS H
      have c22b0:decide ((rd t192 x21_1) < (t189.length:Int))=true:=decide_eq_true c22
      clear c22
      obtain ⟨t199,A230,H⟩:=Option.bind_eq_some_iff.mp H
      try dsimp only at H
      have A23:=Am A230
      clear A230
      obtain ⟨c24,H⟩:=ifS H
      have LMc24:=Am c24
      clear c24
      obtain ⟨y200,hy200⟩: ∃ y_:List (S42),y_=(x5_2++[(⟨4,0,0,((rd_T40 t186 (rd t192 x21_1)).f0),x31_2,t199⟩:S42)]):=⟨_,rfl⟩
      replace H:(place_laid_text.l1 k2 a1 y200 t186 t189 (rd t192 x21_1) t192 (t192.length:Int) x21_1 ((rd_T40 t186 (rd t192 x21_1)).f4) (wrap64 (x31_2+1)) a0_0 a0_1 a0_2 a0_3 a0_4 l0_5 l0_6 a0_7 ((rd_T40 t186 (rd t192 x21_1)).f0) ((rd_T40 t186 (rd t192 x21_1)).f1) ((rd_T40 t186 (rd t192 x21_1)).f2) ((rd_T40 t186 (rd t192 x21_1)).f3) ((rd_T40 t186 (rd t192 x21_1)).f4) ((rd_T40 t186 (rd t192 x21_1)).f5))=some r:=by first|(rw [hy200];with_reducible exact H)|(have H2_:=(Option.bind_some _ _).symm.trans H;rw [hy200];with_reducible exact H2_)|(have H2_:=(Option.bind_some _ _).symm.trans H;with_reducible exact H2_)|with_reducible exact H|(rw [hy200];exact H)|exact H
      have Ny200:=Am hy200
      clear hy200
      have H':=Am H
      clear H
      try go_wp2
      replace HO_5:=Am (Kd.R_drew HO_5.out)
      replace HO_6:=Am (Kd.R_drew HO_6.out)
      replace HO_7:=Am (Kd.R_drew HO_7.out)
      replace HO_19:=Am (Kd.R_drew HO_19.out)
      replace BK185:=Am (blk_drew BK185.out)
      replace BK197:=Am (blk_drew BK197.out)
      replace HB:=Am (below_drew1 HB.out)
      have p198:0≤((rd t192 x21_1):Int):=tD
      have q198:(rd t192 x21_1) < (t189.length:Int):=tD
      obtain ⟨ad198,e198,hx198_0⟩:=Kd.at_int (Kd.R_reads' HO_7.out).2.2 (rd t192 x21_1) p198 q198
      cases e198
      replace p198:=eq_true p198
      replace q198:=eq_true q198
      refine start_ (n:=15) (S:=fun w'=>w'.cell? ⟨gb197,0,none⟩=some (.int .i64 ((rd_T40 t186 (rd t192 x21_1)).f0))∧w'.cell? ⟨gb197,1,none⟩=some (.int .i64 ((rd_T40 t186 (rd t192 x21_1)).f1))∧w'.cell? ⟨gb197,2,none⟩=some (.int .i64 ((rd_T40 t186 (rd t192 x21_1)).f2))∧w'.cell? ⟨gb197,3,none⟩=some (.int .i64 ((rd_T40 t186 (rd t192 x21_1)).f3))∧w'.cell? ⟨gb197,4,none⟩=some (.int .i64 ((rd_T40 t186 (rd t192 x21_1)).f4))∧w'.cell? ⟨gb197,5,none⟩=some (.int .i64 ((rd_T40 t186 (rd t192 x21_1)).f5))∧w'.cell? (ad198.add ((rd t192 x21_1)).toNat)=some (.int .i64 (rd t189 (rd t192 x21_1)))) (ds:=[12,13]) (bl 15 0) TK rfl rfl ⟨(blk_cell BK197.out 0).trans rfl,(blk_cell BK197.out 1).trans rfl,(blk_cell BK197.out 2).trans rfl,(blk_cell BK197.out 3).trans rfl,(blk_cell BK197.out 4).trans rfl,(blk_cell BK197.out 5).trans rfl,hx198_0⟩ (fun hHeld=>?_);refine with_tabW place_laid_text.tab10 place_laid_text.bits10 (fun HT_ HW_=>?_)
      generalize wr.drew=w25 at HO_5 HO_6 HO_7 HO_19 BK185 BK197 HB hx198_0 hHeld ⊢
      refine pureS (i:=0) (N:=some 34) (bl 15 1) rfl rfl (any_of HT_.out TK) ?_
      refine pureS (i:=1) (N:=some 35) (bl 15 3) rfl rfl (any_of HT_.out TK) ?_
      refine pureS (i:=3) (N:=some 37) (bl 15 11) rfl rfl (any_of HT_.out TK) ?_
      refine pureS (i:=4) (N:=some 38) (bl 15 27) rfl rfl (any_of HT_.out TK) ?_
      refine pureS (i:=6) (N:=some 40) (bl 15 91) rfl rfl (any_of HT_.out TK) ?_
      refine pureS (i:=7) (N:=some 41) (bl 15 219) rfl rfl (any_of HT_.out TK) ?_
      refine pureS (i:=8) (N:=some 42) (bl 15 475) rfl rfl (any_of HT_.out TK) ?_
      refine take_ (i:=2) (N:=some 36) (v:=?_) (a':=?_) (bl 15 479) rfl rfl (take_ofW HT_.out HW_.out TK) (fun _ _ _ h=>h) (Or.inl ⟨by rfl,?_⟩) hHeld ?_ ?_
      rotate_left
      ·
       rintro w' ⟨s0,s1,s2,s3,s4,s5,s6⟩
       go_simp
       with_reducible rfl
      rotate_left
      ·
       simp only [PT]
       rfl
      refine take_ (i:=5) (N:=some 39) (v:=?_) (a':=?_) (bl 15 511) rfl rfl (take_ofW HT_.out HW_.out TK) (fun _ _ _ h=>h) (Or.inl ⟨by rfl,?_⟩) hHeld ?_ ?_
      rotate_left
      ·
       rintro w' ⟨s0,s1,s2,s3,s4,s5,s6⟩
       go_simp
       with_reducible rfl
      rotate_left
      ·
       simp only [PT]
       rfl
      refine take_ (i:=9) (N:=some 43) (v:=?_) (a':=?_) (bl 15 1023) rfl rfl (take_ofW HT_.out HW_.out TK) (fun _ _ _ h=>h) (Or.inl ⟨by rfl,?_⟩) hHeld ?_ ?_
      rotate_left
      ·
       rintro w' ⟨s0,s1,s2,s3,s4,s5,s6⟩
       go_simp
       with_reducible rfl
      rotate_left
      ·
       simp only [PT]
       rfl
      refine one_ (i:=10) (N:=some 44) (bl 15 2047) rfl rfl (one_of HT_.out TK) (by decide) (fun K hK=>?_)
      refine goes_ Try.func34 TK rfl #[.int .i64 ((rd_T40 t186 (rd t192 x21_1)).f5),.int .i64 (rd t189 (rd t192 x21_1))] (by rfl) rfl rfl TM ?_
      with_reducible refine (bidi_Shown.calls ((rd_T40 t186 (rd t192 x21_1)).f5) (rd t189 (rd t192 x21_1)) t199 _ A23.out).mono ?_
      rintro e w26 ⟨rfl,hb⟩
      have HS6_:=(hb.cell (World.block_lt_of_cell? _ _ (hHeld.2.2.2.2.2.2))).trans (hHeld.2.2.2.2.2.2)
      refine ⟨_,rfl,?_⟩
      replace HO_5:=Am (Kd.R_below (RU HO_5.out) hb)
      replace HO_6:=Am (Kd.R_below (RU HO_6.out) hb)
      replace HO_7:=Am (Kd.R_below (RU HO_7.out) hb)
      replace HO_19:=Am (Kd.R_below (RU HO_19.out) hb)
      replace BK185:=Am (blk_below (blkU BK185.out) hb)
      replace BK197:=Am (blk_below (blkU BK197.out) hb)
      replace HB:=Am (below_step TB hb)
      (try clear hb)
      (try clear hb2)
      (try clear hk)
      (try clear hi)
      refine hK.out _ _ ⟨(blk_cell BK197.out 0).trans rfl,(blk_cell BK197.out 1).trans rfl,(blk_cell BK197.out 2).trans rfl,(blk_cell BK197.out 3).trans rfl,(blk_cell BK197.out 4).trans rfl,(blk_cell BK197.out 5).trans rfl,HS6_⟩ (fun hHeld=>?_)
      clear hK K
      refine norm_ (a':=?_) ?_ ?_
      rotate_left
      ·
       show Act.put _ (some 44) _=_
       simp only [PT]
       rfl
      refine pureS (i:=11) (N:=some 45) (bl 15 4095) rfl rfl (any_of HT_.out TK) ?_
      refine last_ (i:=12) (N:=some 46) (bl 15 8191) rfl rfl (one_of HT_.out TK) (by decide) (fun K hK=>?_)
      refine value_ (w1:=?_) (v:=?_) (by rfl) rfl ?_ ?_
      rotate_left 2
      ·
       go_simp
       constructor
       ·
        rfl
       ·
        rfl
      refine hK.out _ _ ?_
      clear hK K
      refine norm_ (a':=?_) ?_ ?_
      rotate_left
      ·
       show Act.put _ (some 46) _=_
       simp only [PT]
       rfl
      refine last_ (i:=13) (N:=some 47) (bl 15 16383) rfl rfl (one_of HT_.out TK) (by decide) (fun K hK=>?_)
      refine Kd.R_append_step k42 (w0:=w) w.heap.size (by rfl) (.tmp 34) (.tmp 46) 27 42 (.agg #[(.int .i64 0),(.int .i64 0),(.int .i64 0),(.int .i64 0),(.int .i64 0),(.int .i64 0)]) 48 rfl Try.underlying27 info42 rfl (by decide) (by omega) u5 x5_2 (⟨4,0,0,((rd_T40 t186 (rd t192 x21_1)).f0),x31_2,t199⟩:S42) [.int .i64 4,.int .i64 0,.int .i64 0,.int .i64 ((rd_T40 t186 (rd t192 x21_1)).f0),.int .i64 x31_2,.int .i64 t199] (fun _=>True) (fun _=>False) rfl rfl ?aP (fun _ hk=>hk.elim) ?aF ?aO ?aB ?aS ?aL ?_
      (case aP=>exact k42_mkM _ _ _ (⟨4,0,0,((rd_T40 t186 (rd t192 x21_1)).f0),x31_2,t199⟩:S42))
      (case aB=>exact TB)
      (case aF=>exact (fun _ _=>trivial))
      (case aO=>exact (RU HO_5.out))
      (case aS=>exact (below_size TB))
      (case aL=>have:=LMc24.out;omega)
      intro v201 w27 ho hb hg hat
      rw [← Ny200.out] at ho
      replace HO_6:=Am (Kd.R_over' (RU HO_6.out) (Kd.R_typed (RU HO_5.out)) (by decide) hg)
      replace HO_7:=Am (Kd.R_over' (RU HO_7.out) (Kd.R_typed (RU HO_5.out)) (by decide) hg)
      replace HO_19:=Am (Kd.R_over' (RU HO_19.out) (Kd.R_typed (RU HO_5.out)) (by decide) hg)
      replace BK185:=Am (blk_grown (g:=gb185) (o:= .cells #[.int .i64 a0_0,.int .i64 a0_1,.int .i64 a0_2,.int .i64 a0_3,.int .i64 a0_4,.slice A0_5 l0_5.length c0_5,.slice A0_6 l0_6.length c0_6,.int .i64 a0_7] 50 (0,0)) (blkU BK185.out) hg (Kd.R_ne HO_5.out BK185.out (by decide)))
      replace BK197:=Am (blk_grown (g:=gb197) (o:= .cells #[.int .i64 ((rd_T40 t186 (rd t192 x21_1)).f0),.int .i64 ((rd_T40 t186 (rd t192 x21_1)).f1),.int .i64 ((rd_T40 t186 (rd t192 x21_1)).f2),.int .i64 ((rd_T40 t186 (rd t192 x21_1)).f3),.int .i64 ((rd_T40 t186 (rd t192 x21_1)).f4),.int .i64 ((rd_T40 t186 (rd t192 x21_1)).f5)] 40 (0,0)) (blkU BK197.out) hg (Kd.R_ne HO_5.out BK197.out (by decide)))
      have HO202:=Am (ho)
      replace HB:=Am (hb)
      clear HO_5
      clear ho hb hg hat
      refine hK.out _ _ ?_
      clear hK K
      refine norm_ (a':=?_) ?_ ?_
      rotate_left
      ·
       show Act.put _ (some 47) _=_
       simp only [PT]
       rfl
      refine pureS (i:=14) (N:=some 5) (bl 15 32767) rfl rfl (any_of HT_.out TK) ?_
      refine done_ (done_of HT_.out TK) ?_
      try go_wp2
      go_roundg k2
      case measure=>have:=HK1.out;have:=HK2.out;omega
      case rel=>exact ⟨(y200),(wrap64 (x31_2+1)),TS,H',⟨by have:=HK1.out;have:=HK2.out;omega⟩,⟨RU HO202.out⟩,⟨RU HO_6.out⟩,⟨RU HO_7.out⟩,⟨RU HO_19.out⟩,⟨blkU BK185.out⟩,⟨blkU BK197.out⟩,⟨TB⟩⟩
   rw [if_neg c11] at H
   have c11b0:decide (x21_1 < (t192.length:Int))=false:=decide_eq_false c11
   clear c11
   by_cases c28:a0_4=1
   rotate_left
   ·
    rw [if_neg c28] at H
    have c28b0:(a0_4==1)=false:=beq_eq_false_iff_ne.mpr c28
    have c28b1:(a0_4 !=1)=true:=bne_iff_ne.mpr c28
    obtain rfl:=Option.some.inj H
    go_wp2_with (first|((with_reducible refine gate_dst (N:=12) rfl ?_);refine box_event ?hg (N:=12) ?hd (cs:= #[.int .i64 0,.int .i64 0,.int .i64 0,.int .i64 0,.int .i64 0,.int .i64 0]) (t:=42) ?hr ?_;(case hd=>rfl);(case hg=>rfl);(case hr=>exact TG);intro gb203 hg w46 hbox hb;replace HO_5:=Am (Kd.R_below (Kd.R_elderB (RU HO_5.out) gb203 (Nat.le_of_eq hg.symm)) hb);replace HO_6:=Am (Kd.R_below (RU HO_6.out) hb);replace HO_7:=Am (Kd.R_below (RU HO_7.out) hb);replace HO_19:=Am (Kd.R_below (RU HO_19.out) hb);have BK203:=Am (hbox);have GW203:=Am (gwS hg);have GE203:=Am (gwS hg);have NB185_203:=Am (ltS hg (blkU BK185.out));have NB203_185:=Am (gtS hg (blkU BK185.out));replace BK185:=Am (blk_below (blkU BK185.out) hb);replace HB:=Am (below_step TB hb);clear hb hbox hg;have hnb47:=NB203_185.out;have hnc47:=NB185_203.out;obtain ⟨hcz48_0,hcz48_1,hcz48_2,hcz48_3,hcz48_4,hcz48_5⟩:=blkC6 BK203.out;obtain ⟨hfz48_0,hfz48_1,hfz48_2,hfz48_3,hfz48_4,hfz48_5⟩:=blkF6 BK203.out;obtain ⟨hcz49_0,hcz49_1,hcz49_2,hcz49_3,hcz49_4,hcz49_5,hcz49_6,hcz49_7⟩:=blkC8 BK185.out;obtain ⟨hfz49_0,hfz49_1,hfz49_2,hfz49_3,hfz49_4,hfz49_5,hfz49_6,hfz49_7⟩:=blkF8 BK185.out))
    go_ret
    exact ⟨_,TE,RU (Kd.R_mono (Kd.R_far (p:=⟨gb203,5,none⟩) (Kd.R_far (p:=⟨gb203,4,none⟩) (Kd.R_far (p:=⟨gb203,3,none⟩) (Kd.R_far (p:=⟨gb203,2,none⟩) (Kd.R_far (p:=⟨gb203,1,none⟩) (Kd.R_far (p:=⟨gb203,0,none⟩) (Kd.R_mono HO_5.out (fun k_ hk=>(⟨hk,hk.2⟩:_∧k_≠gb203))) (fun _ hk=>hk.2) (.int .i64 3)) (fun _ hk=>hk.2) (.int .i64 0)) (fun _ hk=>hk.2) (.int .i64 0)) (fun _ hk=>hk.2) (.int .i64 0)) (fun _ hk=>hk.2) (.int .i64 0)) (fun _ hk=>hk.2) (.int .i64 0)) (fun _ hk=>trivial)),TB⟩
   rw [if_pos c28] at H
   have c28b0:(a0_4==1)=true:=beq_iff_eq.mpr c28
   have c28b1:(a0_4 !=1)=false:=bne_eq_false_iff_eq.mpr c28
   clear c28
   by_cases c29:a1=1
   rotate_left
   ·
    rw [if_neg c29] at H
    have c29b0:(a1==1)=false:=beq_eq_false_iff_ne.mpr c29
    have c29b1:(a1 !=1)=true:=bne_iff_ne.mpr c29
    obtain ⟨c40,H⟩:=ifS H
    have LMc40:=Am c40
    clear c40
    obtain ⟨y210,hy210⟩: ∃ y_:List (S42),y_=(x5_1++[(⟨3,0,0,0,0,0⟩:S42)]):=⟨_,rfl⟩
    replace H:(some y210)=some r:=by first|(rw [hy210];with_reducible exact H)|(have H2_:=(Option.bind_some _ _).symm.trans H;rw [hy210];with_reducible exact H2_)|(have H2_:=(Option.bind_some _ _).symm.trans H;with_reducible exact H2_)|with_reducible exact H|(rw [hy210];exact H)|exact H
    have Ny210:=Am hy210
    clear hy210
    obtain rfl:=Option.some.inj H
    go_wp2_with (first|((with_reducible refine gate_dst (N:=12) rfl ?_);refine box_event ?hg (N:=12) ?hd (cs:= #[.int .i64 0,.int .i64 0,.int .i64 0,.int .i64 0,.int .i64 0,.int .i64 0]) (t:=42) ?hr ?_;(case hd=>rfl);(case hg=>rfl);(case hr=>exact TG);intro gb203 hg w41 hbox hb;replace HO_5:=Am (Kd.R_below (Kd.R_elderB (RU HO_5.out) gb203 (Nat.le_of_eq hg.symm)) hb);replace HO_6:=Am (Kd.R_below (RU HO_6.out) hb);replace HO_7:=Am (Kd.R_below (RU HO_7.out) hb);replace HO_19:=Am (Kd.R_below (RU HO_19.out) hb);have BK203:=Am (hbox);have GW203:=Am (gwS hg);have GE203:=Am (gwS hg);have NB185_203:=Am (ltS hg (blkU BK185.out));have NB203_185:=Am (gtS hg (blkU BK185.out));replace BK185:=Am (blk_below (blkU BK185.out) hb);replace HB:=Am (below_step TB hb);clear hb hbox hg;have hnb42:=NB203_185.out;have hnc42:=NB185_203.out;obtain ⟨hcz43_0,hcz43_1,hcz43_2,hcz43_3,hcz43_4,hcz43_5⟩:=blkC6 BK203.out;obtain ⟨hfz43_0,hfz43_1,hfz43_2,hfz43_3,hfz43_4,hfz43_5⟩:=blkF6 BK203.out;obtain ⟨hcz44_0,hcz44_1,hcz44_2,hcz44_3,hcz44_4,hcz44_5,hcz44_6,hcz44_7⟩:=blkC8 BK185.out;obtain ⟨hfz44_0,hfz44_1,hfz44_2,hfz44_3,hfz44_4,hfz44_5,hfz44_6,hfz44_7⟩:=blkF8 BK185.out)|((with_reducible refine gate_builtin (b:= .append) (xs:= #[.tmp 51,.tmp 53]) rfl ?_);at_builtin;refine Kd.R_append k42 (w0:=w) w.heap.size rfl (.tmp 51) (.tmp 53) 27 42 (.agg #[(.int .i64 0),(.int .i64 0),(.int .i64 0),(.int .i64 0),(.int .i64 0),(.int .i64 0)]) 48 rfl Try.underlying27 info42 rfl (by decide) (by omega) u5 x5_1 (⟨3,0,0,0,0,0⟩:S42) [.int .i64 3,.int .i64 0,.int .i64 0,.int .i64 0,.int .i64 0,.int .i64 0] (fun k_=>k_≠gb203) (fun _=>False) rfl (by first|(go_simp;done)|(go_simp;rfl)) ?aP (fun _ hk=>hk.elim) ?aF ?aO ?aB ?aS ?aL ?_;(case aP=>exact k42_mkM _ _ _ (⟨3,0,0,0,0,0⟩:S42));(case aB=>exact TB);(case aF=>exact (fun k_ hk=>Kd.freshB (g:=gb203) (o:= .cells #[.int .i64 3,.int .i64 0,.int .i64 0,.int .i64 0,.int .i64 0,.int .i64 0] 42 (0,0)) (by refine blk_put (cs:= #[.int .i64 3,.int .i64 0,.int .i64 0,.int .i64 0,.int .i64 0,.int .i64 0]) ?_ 5 _ rfl;refine blk_put (cs:= #[.int .i64 3,.int .i64 0,.int .i64 0,.int .i64 0,.int .i64 0,.int .i64 0]) ?_ 4 _ rfl;refine blk_put (cs:= #[.int .i64 3,.int .i64 0,.int .i64 0,.int .i64 0,.int .i64 0,.int .i64 0]) ?_ 3 _ rfl;refine blk_put (cs:= #[.int .i64 3,.int .i64 0,.int .i64 0,.int .i64 0,.int .i64 0,.int .i64 0]) ?_ 2 _ rfl;refine blk_put (cs:= #[.int .i64 3,.int .i64 0,.int .i64 0,.int .i64 0,.int .i64 0,.int .i64 0]) ?_ 1 _ rfl;refine blk_put (cs:= #[.int .i64 0,.int .i64 0,.int .i64 0,.int .i64 0,.int .i64 0,.int .i64 0]) ?_ 0 _ rfl;exact BK203.out) k_ hk));(case aO=>exact (RU (Kd.R_mono (Kd.R_far (p:=⟨gb203,5,none⟩) (Kd.R_far (p:=⟨gb203,4,none⟩) (Kd.R_far (p:=⟨gb203,3,none⟩) (Kd.R_far (p:=⟨gb203,2,none⟩) (Kd.R_far (p:=⟨gb203,1,none⟩) (Kd.R_far (p:=⟨gb203,0,none⟩) (Kd.R_mono HO_5.out (fun k_ hk=>(⟨hk,hk.2⟩:_∧k_≠gb203))) (fun _ hk=>hk.2) (.int .i64 3)) (fun _ hk=>hk.2) (.int .i64 0)) (fun _ hk=>hk.2) (.int .i64 0)) (fun _ hk=>hk.2) (.int .i64 0)) (fun _ hk=>hk.2) (.int .i64 0)) (fun _ hk=>hk.2) (.int .i64 0)) (fun _ hk=>hk.1.2))));(case aS=>exact (below_size TB));(case aL=>have:=LMc40.out;omega);intro v211 w45 ho hb hg hat;rw [← Ny210.out] at ho;replace HO_6:=Am (Kd.R_over' (RU (Kd.R_mono (Kd.R_far (p:=⟨gb203,5,none⟩) (Kd.R_far (p:=⟨gb203,4,none⟩) (Kd.R_far (p:=⟨gb203,3,none⟩) (Kd.R_far (p:=⟨gb203,2,none⟩) (Kd.R_far (p:=⟨gb203,1,none⟩) (Kd.R_far (p:=⟨gb203,0,none⟩) (Kd.R_types HO_6.out BK203.out (by decide)) (fun _ hk=>hk.2) (.int .i64 3)) (fun _ hk=>hk.2) (.int .i64 0)) (fun _ hk=>hk.2) (.int .i64 0)) (fun _ hk=>hk.2) (.int .i64 0)) (fun _ hk=>hk.2) (.int .i64 0)) (fun _ hk=>hk.2) (.int .i64 0)) (fun _ h_=>h_.1))) (Kd.R_typed (RU (Kd.R_mono (Kd.R_far (p:=⟨gb203,5,none⟩) (Kd.R_far (p:=⟨gb203,4,none⟩) (Kd.R_far (p:=⟨gb203,3,none⟩) (Kd.R_far (p:=⟨gb203,2,none⟩) (Kd.R_far (p:=⟨gb203,1,none⟩) (Kd.R_far (p:=⟨gb203,0,none⟩) (Kd.R_mono HO_5.out (fun k_ hk=>(⟨hk,hk.2⟩:_∧k_≠gb203))) (fun _ hk=>hk.2) (.int .i64 3)) (fun _ hk=>hk.2) (.int .i64 0)) (fun _ hk=>hk.2) (.int .i64 0)) (fun _ hk=>hk.2) (.int .i64 0)) (fun _ hk=>hk.2) (.int .i64 0)) (fun _ hk=>hk.2) (.int .i64 0)) (fun _ h_=>h_.1)))) (by decide) hg);replace HO_7:=Am (Kd.R_over' (RU (Kd.R_mono (Kd.R_far (p:=⟨gb203,5,none⟩) (Kd.R_far (p:=⟨gb203,4,none⟩) (Kd.R_far (p:=⟨gb203,3,none⟩) (Kd.R_far (p:=⟨gb203,2,none⟩) (Kd.R_far (p:=⟨gb203,1,none⟩) (Kd.R_far (p:=⟨gb203,0,none⟩) (Kd.R_types HO_7.out BK203.out (by decide)) (fun _ hk=>hk.2) (.int .i64 3)) (fun _ hk=>hk.2) (.int .i64 0)) (fun _ hk=>hk.2) (.int .i64 0)) (fun _ hk=>hk.2) (.int .i64 0)) (fun _ hk=>hk.2) (.int .i64 0)) (fun _ hk=>hk.2) (.int .i64 0)) (fun _ h_=>h_.1))) (Kd.R_typed (RU (Kd.R_mono (Kd.R_far (p:=⟨gb203,5,none⟩) (Kd.R_far (p:=⟨gb203,4,none⟩) (Kd.R_far (p:=⟨gb203,3,none⟩) (Kd.R_far (p:=⟨gb203,2,none⟩) (Kd.R_far (p:=⟨gb203,1,none⟩) (Kd.R_far (p:=⟨gb203,0,none⟩) (Kd.R_mono HO_5.out (fun k_ hk=>(⟨hk,hk.2⟩:_∧k_≠gb203))) (fun _ hk=>hk.2) (.int .i64 3)) (fun _ hk=>hk.2) (.int .i64 0)) (fun _ hk=>hk.2) (.int .i64 0)) (fun _ hk=>hk.2) (.int .i64 0)) (fun _ hk=>hk.2) (.int .i64 0)) (fun _ hk=>hk.2) (.int .i64 0)) (fun _ h_=>h_.1)))) (by decide) hg);replace HO_19:=Am (Kd.R_over' (RU (Kd.R_mono (Kd.R_far (p:=⟨gb203,5,none⟩) (Kd.R_far (p:=⟨gb203,4,none⟩) (Kd.R_far (p:=⟨gb203,3,none⟩) (Kd.R_far (p:=⟨gb203,2,none⟩) (Kd.R_far (p:=⟨gb203,1,none⟩) (Kd.R_far (p:=⟨gb203,0,none⟩) (Kd.R_types HO_19.out BK203.out (by decide)) (fun _ hk=>hk.2) (.int .i64 3)) (fun _ hk=>hk.2) (.int .i64 0)) (fun _ hk=>hk.2) (.int .i64 0)) (fun _ hk=>hk.2) (.int .i64 0)) (fun _ hk=>hk.2) (.int .i64 0)) (fun _ hk=>hk.2) (.int .i64 0)) (fun _ h_=>h_.1))) (Kd.R_typed (RU (Kd.R_mono (Kd.R_far (p:=⟨gb203,5,none⟩) (Kd.R_far (p:=⟨gb203,4,none⟩) (Kd.R_far (p:=⟨gb203,3,none⟩) (Kd.R_far (p:=⟨gb203,2,none⟩) (Kd.R_far (p:=⟨gb203,1,none⟩) (Kd.R_far (p:=⟨gb203,0,none⟩) (Kd.R_mono HO_5.out (fun k_ hk=>(⟨hk,hk.2⟩:_∧k_≠gb203))) (fun _ hk=>hk.2) (.int .i64 3)) (fun _ hk=>hk.2) (.int .i64 0)) (fun _ hk=>hk.2) (.int .i64 0)) (fun _ hk=>hk.2) (.int .i64 0)) (fun _ hk=>hk.2) (.int .i64 0)) (fun _ hk=>hk.2) (.int .i64 0)) (fun _ h_=>h_.1)))) (by decide) hg);replace BK185:=Am (blk_grown (g:=gb185) (o:= .cells #[.int .i64 a0_0,.int .i64 a0_1,.int .i64 a0_2,.int .i64 a0_3,.int .i64 a0_4,.slice A0_5 l0_5.length c0_5,.slice A0_6 l0_6.length c0_6,.int .i64 a0_7] 50 (0,0)) (by refine blk_far ?_ NB185_203.out _;refine blk_far ?_ NB185_203.out _;refine blk_far ?_ NB185_203.out _;refine blk_far ?_ NB185_203.out _;refine blk_far ?_ NB185_203.out _;refine blk_far ?_ NB185_203.out _;exact BK185.out) hg (Kd.R_ne HO_5.out BK185.out (by decide)));replace BK203:=Am (blk_grown (g:=gb203) (o:= .cells #[.int .i64 3,.int .i64 0,.int .i64 0,.int .i64 0,.int .i64 0,.int .i64 0] 42 (0,0)) (by refine blk_put (cs:= #[.int .i64 3,.int .i64 0,.int .i64 0,.int .i64 0,.int .i64 0,.int .i64 0]) ?_ 5 _ rfl;refine blk_put (cs:= #[.int .i64 3,.int .i64 0,.int .i64 0,.int .i64 0,.int .i64 0,.int .i64 0]) ?_ 4 _ rfl;refine blk_put (cs:= #[.int .i64 3,.int .i64 0,.int .i64 0,.int .i64 0,.int .i64 0,.int .i64 0]) ?_ 3 _ rfl;refine blk_put (cs:= #[.int .i64 3,.int .i64 0,.int .i64 0,.int .i64 0,.int .i64 0,.int .i64 0]) ?_ 2 _ rfl;refine blk_put (cs:= #[.int .i64 3,.int .i64 0,.int .i64 0,.int .i64 0,.int .i64 0,.int .i64 0]) ?_ 1 _ rfl;refine blk_put (cs:= #[.int .i64 0,.int .i64 0,.int .i64 0,.int .i64 0,.int .i64 0,.int .i64 0]) ?_ 0 _ rfl;exact BK203.out) hg (Kd.R_away HO_5.out (fun _ hk=>hk.2)));have HO212:=Am (ho);replace HB:=Am (hb);clear HO_5;clear ho hb hg hat))
    go_ret
    exact ⟨_,TE,RU (Kd.R_mono HO212.out (fun _ hk=>trivial)),TB⟩
   rw [if_pos c29] at H
   have c29b0:(a1==1)=true:=beq_iff_eq.mpr c29
   have c29b1:(a1 !=1)=false:=bne_eq_false_iff_eq.mpr c29
   clear c29
   obtain ⟨y204,hy204⟩: ∃ y_:List (S42),y_=(([(⟨3,0,0,0,0,0⟩:S42)]:List (S42))):=⟨_,rfl⟩
   replace H:((api_Slot_35.f x5_1 0 y204).bind fun t207=>(some t207))=some r:=by first|(rw [hy204];with_reducible exact H)|(have H2_:=(Option.bind_some _ _).symm.trans H;rw [hy204];with_reducible exact H2_)|(have H2_:=(Option.bind_some _ _).symm.trans H;with_reducible exact H2_)|with_reducible exact H|(rw [hy204];exact H)|exact H
   have Ny204:=Am hy204
   clear hy204
   obtain ⟨t207,A300,H⟩:=Option.bind_eq_some_iff.mp H
   try dsimp only at H
   have A30:=Am A300
   clear A300
   obtain rfl:=Option.some.inj H
   go_wp2_with (first|((with_reducible refine gate_dst (N:=12) rfl ?_);refine box_event ?hg (N:=12) ?hd (cs:= #[.int .i64 0,.int .i64 0,.int .i64 0,.int .i64 0,.int .i64 0,.int .i64 0]) (t:=42) ?hr ?_;(case hd=>rfl);(case hg=>rfl);(case hr=>exact TG);intro gb203 hg w31 hbox hb;replace HO_5:=Am (Kd.R_below (Kd.R_elderB (RU HO_5.out) gb203 (Nat.le_of_eq hg.symm)) hb);replace HO_6:=Am (Kd.R_below (RU HO_6.out) hb);replace HO_7:=Am (Kd.R_below (RU HO_7.out) hb);replace HO_19:=Am (Kd.R_below (RU HO_19.out) hb);have BK203:=Am (hbox);have GW203:=Am (gwS hg);have GE203:=Am (gwS hg);have NB185_203:=Am (ltS hg (blkU BK185.out));have NB203_185:=Am (gtS hg (blkU BK185.out));replace BK185:=Am (blk_below (blkU BK185.out) hb);replace HB:=Am (below_step TB hb);clear hb hbox hg;have hnb32:=NB203_185.out;have hnc32:=NB185_203.out;obtain ⟨hcz33_0,hcz33_1,hcz33_2,hcz33_3,hcz33_4,hcz33_5⟩:=blkC6 BK203.out;obtain ⟨hfz33_0,hfz33_1,hfz33_2,hfz33_3,hfz33_4,hfz33_5⟩:=blkF6 BK203.out;obtain ⟨hcz34_0,hcz34_1,hcz34_2,hcz34_3,hcz34_4,hcz34_5,hcz34_6,hcz34_7⟩:=blkC8 BK185.out;obtain ⟨hfz34_0,hfz34_1,hfz34_2,hfz34_3,hfz34_4,hfz34_5,hfz34_6,hfz34_7⟩:=blkF8 BK185.out)|((with_reducible refine gate_dst (N:=65) rfl ?_);refine Kd.R_lit k42 _ 42 ?hg (N:=65) ?hd (xs:=([(⟨3,0,0,0,0,0⟩:S42)]:List (S42))) (inner:=[.int .i64 3,.int .i64 0,.int .i64 0,.int .i64 0,.int .i64 0,.int .i64 0]) (ok:=fun _=>True) (okp:=fun _=>True) ?hr ?hp (fun _ hk=>hk) trivial (Below.refl _ _) (Nat.le_refl _) (by simp) ?_;(case hd=>rfl);(case hg=>rfl);(case hr=>exact TG);(case hp=>exact (Reps.c6 (show Kd.M k42 _ _ _ (⟨3,0,0,0,0,0⟩:S42) [.int .i64 3,.int .i64 0,.int .i64 0,.int .i64 0,.int .i64 0,.int .i64 0] from (k42_mkM _ _ _ (⟨3,0,0,0,0,0⟩:S42))) (Reps.none _ _)));intro v205 w35 ho36 hb hg_ hnew_;clear hg_ hnew_;(first|rw [← Ny204.out] at ho36|(simp only [Int.reduceToNat] at ho36;rw [← Ny204.out] at ho36));replace HO_6:=Am (Kd.R_below (RU (Kd.R_mono (Kd.R_far (p:=⟨gb203,5,none⟩) (Kd.R_far (p:=⟨gb203,4,none⟩) (Kd.R_far (p:=⟨gb203,3,none⟩) (Kd.R_far (p:=⟨gb203,2,none⟩) (Kd.R_far (p:=⟨gb203,1,none⟩) (Kd.R_far (p:=⟨gb203,0,none⟩) (Kd.R_types HO_6.out BK203.out (by decide)) (fun _ hk=>hk.2) (.int .i64 3)) (fun _ hk=>hk.2) (.int .i64 0)) (fun _ hk=>hk.2) (.int .i64 0)) (fun _ hk=>hk.2) (.int .i64 0)) (fun _ hk=>hk.2) (.int .i64 0)) (fun _ hk=>hk.2) (.int .i64 0)) (fun _ h_=>h_.1))) hb);replace HO_7:=Am (Kd.R_below (RU (Kd.R_mono (Kd.R_far (p:=⟨gb203,5,none⟩) (Kd.R_far (p:=⟨gb203,4,none⟩) (Kd.R_far (p:=⟨gb203,3,none⟩) (Kd.R_far (p:=⟨gb203,2,none⟩) (Kd.R_far (p:=⟨gb203,1,none⟩) (Kd.R_far (p:=⟨gb203,0,none⟩) (Kd.R_types HO_7.out BK203.out (by decide)) (fun _ hk=>hk.2) (.int .i64 3)) (fun _ hk=>hk.2) (.int .i64 0)) (fun _ hk=>hk.2) (.int .i64 0)) (fun _ hk=>hk.2) (.int .i64 0)) (fun _ hk=>hk.2) (.int .i64 0)) (fun _ hk=>hk.2) (.int .i64 0)) (fun _ h_=>h_.1))) hb);replace HO_19:=Am (Kd.R_below (RU (Kd.R_mono (Kd.R_far (p:=⟨gb203,5,none⟩) (Kd.R_far (p:=⟨gb203,4,none⟩) (Kd.R_far (p:=⟨gb203,3,none⟩) (Kd.R_far (p:=⟨gb203,2,none⟩) (Kd.R_far (p:=⟨gb203,1,none⟩) (Kd.R_far (p:=⟨gb203,0,none⟩) (Kd.R_types HO_19.out BK203.out (by decide)) (fun _ hk=>hk.2) (.int .i64 3)) (fun _ hk=>hk.2) (.int .i64 0)) (fun _ hk=>hk.2) (.int .i64 0)) (fun _ hk=>hk.2) (.int .i64 0)) (fun _ hk=>hk.2) (.int .i64 0)) (fun _ hk=>hk.2) (.int .i64 0)) (fun _ h_=>h_.1))) hb);have HO206:=Am (Kd.R_lower (Kd.R_newB (Kd.R_new' ho36 (Kd.R_lt (RU (Kd.R_mono (Kd.R_far (p:=⟨gb203,5,none⟩) (Kd.R_far (p:=⟨gb203,4,none⟩) (Kd.R_far (p:=⟨gb203,3,none⟩) (Kd.R_far (p:=⟨gb203,2,none⟩) (Kd.R_far (p:=⟨gb203,1,none⟩) (Kd.R_far (p:=⟨gb203,0,none⟩) (Kd.R_mono HO_5.out (fun k_ hk=>(⟨hk,hk.2⟩:_∧k_≠gb203))) (fun _ hk=>hk.2) (.int .i64 3)) (fun _ hk=>hk.2) (.int .i64 0)) (fun _ hk=>hk.2) (.int .i64 0)) (fun _ hk=>hk.2) (.int .i64 0)) (fun _ hk=>hk.2) (.int .i64 0)) (fun _ hk=>hk.2) (.int .i64 0)) (fun _ h_=>h_.1))))) (g:=gb203) (o:= .cells #[.int .i64 3,.int .i64 0,.int .i64 0,.int .i64 0,.int .i64 0,.int .i64 0] 42 (0,0)) (by refine blk_put (cs:= #[.int .i64 3,.int .i64 0,.int .i64 0,.int .i64 0,.int .i64 0,.int .i64 0]) ?_ 5 _ rfl;refine blk_put (cs:= #[.int .i64 3,.int .i64 0,.int .i64 0,.int .i64 0,.int .i64 0,.int .i64 0]) ?_ 4 _ rfl;refine blk_put (cs:= #[.int .i64 3,.int .i64 0,.int .i64 0,.int .i64 0,.int .i64 0,.int .i64 0]) ?_ 3 _ rfl;refine blk_put (cs:= #[.int .i64 3,.int .i64 0,.int .i64 0,.int .i64 0,.int .i64 0,.int .i64 0]) ?_ 2 _ rfl;refine blk_put (cs:= #[.int .i64 3,.int .i64 0,.int .i64 0,.int .i64 0,.int .i64 0,.int .i64 0]) ?_ 1 _ rfl;refine blk_put (cs:= #[.int .i64 0,.int .i64 0,.int .i64 0,.int .i64 0,.int .i64 0,.int .i64 0]) ?_ 0 _ rfl;exact BK203.out)) (below_size TB));replace HO_5:=Am (Kd.R_elder' (RU (Kd.R_mono (Kd.R_far (p:=⟨gb203,5,none⟩) (Kd.R_far (p:=⟨gb203,4,none⟩) (Kd.R_far (p:=⟨gb203,3,none⟩) (Kd.R_far (p:=⟨gb203,2,none⟩) (Kd.R_far (p:=⟨gb203,1,none⟩) (Kd.R_far (p:=⟨gb203,0,none⟩) (Kd.R_mono HO_5.out (fun k_ hk=>(⟨hk,hk.2⟩:_∧k_≠gb203))) (fun _ hk=>hk.2) (.int .i64 3)) (fun _ hk=>hk.2) (.int .i64 0)) (fun _ hk=>hk.2) (.int .i64 0)) (fun _ hk=>hk.2) (.int .i64 0)) (fun _ hk=>hk.2) (.int .i64 0)) (fun _ hk=>hk.2) (.int .i64 0)) (fun _ h_=>h_.1))) (Kd.R_base ho36) hb);replace BK185:=Am (blk_below (g:=gb185) (o:= .cells #[.int .i64 a0_0,.int .i64 a0_1,.int .i64 a0_2,.int .i64 a0_3,.int .i64 a0_4,.slice A0_5 l0_5.length c0_5,.slice A0_6 l0_6.length c0_6,.int .i64 a0_7] 50 (0,0)) (by refine blk_far ?_ NB185_203.out _;refine blk_far ?_ NB185_203.out _;refine blk_far ?_ NB185_203.out _;refine blk_far ?_ NB185_203.out _;refine blk_far ?_ NB185_203.out _;refine blk_far ?_ NB185_203.out _;exact BK185.out) hb);replace BK203:=Am (blk_below (g:=gb203) (o:= .cells #[.int .i64 3,.int .i64 0,.int .i64 0,.int .i64 0,.int .i64 0,.int .i64 0] 42 (0,0)) (by refine blk_put (cs:= #[.int .i64 3,.int .i64 0,.int .i64 0,.int .i64 0,.int .i64 0,.int .i64 0]) ?_ 5 _ rfl;refine blk_put (cs:= #[.int .i64 3,.int .i64 0,.int .i64 0,.int .i64 0,.int .i64 0,.int .i64 0]) ?_ 4 _ rfl;refine blk_put (cs:= #[.int .i64 3,.int .i64 0,.int .i64 0,.int .i64 0,.int .i64 0,.int .i64 0]) ?_ 3 _ rfl;refine blk_put (cs:= #[.int .i64 3,.int .i64 0,.int .i64 0,.int .i64 0,.int .i64 0,.int .i64 0]) ?_ 2 _ rfl;refine blk_put (cs:= #[.int .i64 3,.int .i64 0,.int .i64 0,.int .i64 0,.int .i64 0,.int .i64 0]) ?_ 1 _ rfl;refine blk_put (cs:= #[.int .i64 0,.int .i64 0,.int .i64 0,.int .i64 0,.int .i64 0,.int .i64 0]) ?_ 0 _ rfl;exact BK203.out) hb);replace HB:=Am (below_step TB hb);clear hb ho36;obtain ⟨Ao37,co37,eo37⟩:=Kd.R_slice HO_5.out;subst eo37;obtain ⟨Ao38,co38,eo38⟩:=Kd.R_slice HO206.out;subst eo38)|((with_reducible refine gate_callee (f:=35) rfl ?_);refine goesL_ (some 66) rfl rfl Try.func35 TK rfl #[.slice Ao37 x5_1.length co37,.int .i64 0,.slice Ao38 y204.length co38] rfl TM ?_;(with_reducible refine (api_Slot_35.calls (fun k_=>some k_=(.slice Ao37 x5_1.length co37:Value).ownBlock) (.slice Ao37 x5_1.length co37) x5_1 0 (fun k_=>some k_=(.slice Ao38 y204.length co38:Value).ownBlock) (.slice Ao38 y204.length co38) y204 t207 w _ ?side1 ?side2 ?side3 ?side4 ?side5 A30.out).mono ?_);(case side1=>repeat (first|(with_reducible first|exact HB.out|apply below_alloc|apply pw_below_drewN|apply below_drew1|refine below_set ?_ GE185.out|refine below_set ?_ GE203.out)|exact HB.out));(case side2=>exact Kd.R_tight rfl HO_5.out);(case side3=>exact fun k_ e_=>(HO_5.out.1 k_ e_.symm).2);(case side4=>exact Kd.R_tight rfl HO206.out);(case side5=>exact fun k_ e_=>(HO206.out.1 k_ e_.symm).1.2);rintro e w39 ⟨v208,rfl,ho0,hb,hkp⟩;refine ⟨_,rfl,?_⟩;replace HO_6:=Am (Kd.R_mono (ok':=fun k_=>True) (Kd.R_keptB ((Kd.R_apart' (Kd.R_apart' HO_6.out (Kd.R_typed HO_5.out) (by decide)) (Kd.R_typed HO206.out) (by decide))) hkp (fun k_ hk_ hs_=>Or.elim hs_ (fun e_=>(hk_.1.2) e_) (fun e_=>(hk_.2) e_))) (fun k_ hk_=>trivial));replace HO_7:=Am (Kd.R_mono (ok':=fun k_=>some k_≠(.slice Ao10 t192.length co10:Value).ownBlock) (Kd.R_keptB ((Kd.R_apart' (Kd.R_apart' HO_7.out (Kd.R_typed HO_5.out) (by decide)) (Kd.R_typed HO206.out) (by decide))) hkp (fun k_ hk_ hs_=>Or.elim hs_ (fun e_=>(hk_.1.2) e_) (fun e_=>(hk_.2) e_))) (fun k_ hk_=>hk_.1.1.1));replace HO_19:=Am (Kd.R_mono (ok':=fun k_=>some k_≠(.slice Ao8 t189.length co8:Value).ownBlock) (Kd.R_keptB ((Kd.R_apart' (Kd.R_apart' HO_19.out (Kd.R_typed HO_5.out) (by decide)) (Kd.R_typed HO206.out) (by decide))) hkp (fun k_ hk_ hs_=>Or.elim hs_ (fun e_=>(hk_.1.2) e_) (fun e_=>(hk_.2) e_))) (fun k_ hk_=>hk_.1.1.1));replace BK185:=Am (blk_kept (blkU BK185.out) hkp (fun hs_=>Or.elim hs_ (fun e_=>(fun e_=>(Kd.R_ne HO_5.out BK185.out (by decide)) e_) e_) (fun e_=>(fun e_=>(Kd.R_ne HO206.out BK185.out (by decide)) e_) e_)));have HO209:=Am (Kd.R_mono (ok':=fun k_=>k_≠gb203) ho0 (fun k_ hk_=>Or.elim hk_ (fun hs_=>Or.elim hs_ (fun hs_=>fun e_=>(Kd.R_away HO_5.out (fun _ hk=>hk.1.2)) (by rw [← e_];exact hs_)) (fun hs_=>fun e_=>(Kd.R_away HO206.out (fun _ hk=>hk.2)) (by rw [← e_];exact hs_))) (fun hn_=>(Kd.freshB (g:=gb203) (o:= .cells #[.int .i64 3,.int .i64 0,.int .i64 0,.int .i64 0,.int .i64 0,.int .i64 0] 42 (0,0)) (blkU BK203.out) k_ hn_))));replace BK203:=Am (blk_kept (blkU BK203.out) hkp (fun hs_=>Or.elim hs_ (fun e_=>(fun e_=>(Kd.R_away HO_5.out (fun _ hk=>hk.1.2)) e_) e_) (fun e_=>(fun e_=>(Kd.R_away HO206.out (fun _ hk=>hk.2)) e_) e_)));replace HB:=Am (hb);clear HO206 HO_5;(try clear hb);(try clear hkp);(try clear ho0)))
   go_ret
   exact ⟨_,TE,RU (Kd.R_mono HO209.out (fun _ hk=>trivial)),TB⟩
def api_Slot_36.f (a1:Int):Option (List S42):=if 0≤a1∧a1 < 1000000 then some [] else none
section
open Go.Proofs.YteoaegigjlhamaaH
set_option maxHeartbeats 2000000 in
theorem api_Slot_36.calls (a1:Int) (r:List S42) (w:World) (h:api_Slot_36.f a1=some r) :
  Calls Try.prog 36 #[.slice none 0 0,.int .i64 a1] w fun e w'=> ∃ v0_:Value,e= .returned v0_∧Kd.R k42 42 w' w.heap.size (fun _=>True) v0_ r∧Below w.heap.size w w':=by
 unfold api_Slot_36.f at h
 split at h
 rotate_left
 ·
  cases h
 rename_i hl
 obtain rfl:=Option.some.inj h
 obtain ⟨h0,h1⟩:=hl
 obtain ⟨i0,hi0,_,hsz,_⟩:=info_parts info42
 have HB:=Am (Below.refl w.heap.size w)
 have hq0:=cut_to (P:=Try.prog) 27 42 .i64 Try.underlying27 hi0 none 0 0 0 (by decide) (by decide) (by decide)
 have hw1:IntKind.i64.wrap (a1 - 0)=a1:=by rw [Int.sub_zero];exact (by rw [IntKind.wrap_i64];omega)
 have hw2:IntKind.i64.wrap a1=a1:=(by rw [IntKind.wrap_i64];omega)
 have hn: ¬ a1 < 0:=by omega
 clear h
 by_cases hp:0 < a1
 ·
  go_enter Try.func36,Try.ntmps36
  go_wp2_with (first|((with_reducible refine gate_builtin (b:= .append) (xs:= #[.tmp 20,.tmp 21]) rfl ?_);at_builtin;refine Kd.R_append_zeros k42 (w0:=w) w.heap.size rfl (.tmp 20) (.tmp 21) 27 3 42 (.agg #[(.int .i64 0),(.int .i64 0),(.int .i64 0),(.int .i64 0),(.int .i64 0),(.int .i64 0)]) 48 rfl Try.underlying27 Try.underlying3 info42 rfl (by decide) (by decide) (.slice none 0 0) [] z42 a1 (fun _=>True) rfl rfl (k42_mkM _ _ _ _) (fun _ _=>trivial) (Kd.R_nil _ _ _ _ _) h0 HB.out HB.out.size (by simp;omega) ?_;intro v_ w1 ho hb1 hg1 hat;obtain ⟨A1,c1,rfl⟩:=Kd.R_slice ho;have hq5:=cut_to (P:=Try.prog) 27 42 .i64 Try.underlying27 hi0 A1 ([]++List.replicate a1.toNat z42).length c1 0 (by decide) (by omega) (by obtain ⟨_,inn_,ho2_,_⟩:=ho;exact own_cap ho2_);have n0_:=Am (Kd.R_take (m:=0) ho (Nat.zero_le _));have n1_:=Am hb1;clear ho hb1 hg1 hat))
  go_ret
  exact ⟨_,rfl,n0_.out,n1_.out⟩
 ·
  go_enter Try.func36,Try.ntmps36
  go_wp2
  go_ret
  exact ⟨_,rfl,Kd.R_nil _ _ _ _ _,HB.out⟩
end
def api_Slot_19.f (l0:List (List S42)):Option (List S42):=if l0.length=3∧l0.flatten.length < 1000000 then some l0.flatten else none
section
open Go.Proofs.YteoaegigjlhamaaH
theorem api_Slot_19.info78:(Try.prog.info? 27).map (fun i=>(i.zero,i.size))=some (some (.slice none 0 0),1):=by kernel_rfl
theorem api_Slot_19.step (l:List (List S42)) (i:Nat) (hi:i < l.length):(l.take (i+1)).flatten=(l.take i).flatten++rd_L8 l (i:Int):=by
 rw [List.take_add_one,List.flatten_append,List.getElem?_eq_getElem hi]
 unfold rd_L8
 simp [List.getD_eq_getElem?_getD,List.getElem?_eq_getElem hi]
theorem api_Slot_19.le (l:List (List S42)) (i:Nat):(l.take i).flatten.length≤l.flatten.length:=by
 have e:l.flatten=(l.take i).flatten++(l.drop i).flatten:=by rw [← List.flatten_append,List.take_append_drop]
 rw [e,List.length_append]
 omega
set_option maxHeartbeats 2000000 in
theorem api_Slot_19.calls (A0:Option Addr) (c0:Nat) (l0:List (List S42)) (r:List S42) (w:World) (hr0:Kd.C (Kd.slice 42 k42) w A0 l0.length l0) (hc0:l0.length≤c0) (h:api_Slot_19.f l0=some r) :
  Calls Try.prog 19 #[.slice A0 l0.length c0] w fun e w'=> ∃ v0_:Value,e= .returned v0_∧Kd.R k42 42 w' w.heap.size (fun _=>True) v0_ r∧Below w.heap.size w w':=by
 unfold api_Slot_19.f at h
 split at h
 rotate_left
 ·
  cases h
 rename_i hl
 obtain rfl:=Option.some.inj h
 obtain ⟨hl3,hlt⟩:=hl
 clear h
 have HR:=Am hr0
 have HL3:=Am hl3
 have HLT:=Am hlt
 have HB:=Am (Below.refl w.heap.size w)
 clear hr0 hc0 hl3 hlt
 go_enter Try.func19,Try.ntmps19
 go_wp2
 go_loopg [3,11] (l0.length) (fun kx s3 s11 wr=> ∃ (i:Nat) (ii sz:Int),s3= .int .i64 sz∧s11= .int .i64 ii∧Aside0 (ii=(i:Int))∧Aside0 (i≤l0.length)∧kx=l0.length - i∧Aside0 (sz=((l0.take i).flatten.length:Int))∧Aside0 (Below w.heap.size w wr))
 case atStart=>exact ⟨0,0,0,rfl,rfl,⟨rfl⟩,⟨Nat.zero_le _⟩,rfl,⟨by simp⟩,HB⟩
 case round =>
  clear HB
  obtain ⟨i,ii,sz,rfl,rfl,hii,hil,rfl,hsz,hb⟩:=hrel
  have hi0:(0:Int)≤ii:=by rw [hii.out];omega
  have hib:ii < 1000000:=by rw [hii.out];have:=hil.out;have:=HL3.out;omega
  by_cases hi:i < l0.length
  ·
   have hi':ii < (l0.length:Int):=by rw [hii.out];omega
   obtain ⟨ad,A1,c1,rfl,hcell,hlc,hC⟩:=at_L8 (Kd.C_below HR.out hb.out) ii hi0 hi'
   obtain ⟨y,hy⟩: ∃ y,y=rd_L8 l0 ii:=⟨_,rfl⟩
   rw [← hy] at hcell
   have hs:=api_Slot_19.step l0 i hi
   rw [← hii.out,← hy] at hs
   have hle:=api_Slot_19.le l0 (i+1)
   obtain ⟨z,hz⟩: ∃ z:Int,z=sz+(y.length:Int):=⟨_,rfl⟩
   have hzl:=Am (show z=((l0.take (i+1)).flatten.length:Int) by rw [hz,hsz.out,hs,List.length_append];omega)
   have hw:IntKind.i64.wrap (sz+(y.length:Int))=z:=by
    rw [← hz,hzl.out,IntKind.wrap_i64]
    have:=HLT.out
    omega
   have hw2:wrap64 (sz+(y.length:Int))=z:=by
    unfold wrap64
    rw [← hz,hzl.out]
    have:=HLT.out
    omega
   have hz0: ¬ z < 0:=by rw [hzl.out];omega
   have hn1:=Am (show ii+1=((i+1:Nat):Int) by rw [hii.out];omega)
   have Hi:=Am hi
   clear hs hle hi hz hC hlc hy
   go_wp2
   go_roundg (l0.length - (i+1))
   case measure=>have:=Hi.out;omega
   case rel=>exact ⟨i+1,ii+1,z,rfl,rfl,hn1,⟨Hi.out⟩,rfl,hzl,hb⟩
  ·
   have hi': ¬ ii < (l0.length:Int):=by rw [hii.out];omega
   have hs:=hsz.out
   rw [show i=l0.length by have:=hil.out;omega,List.take_length] at hs
   have hg:api_Slot_36.f sz=some []:=by
    unfold api_Slot_36.f
    rw [if_pos ⟨by rw [hs];omega,by rw [hs];have:=HLT.out;omega⟩]
   have HG:=Am hg
   clear hsz hs hg hi hil
   go_wp2_with (first|((with_reducible refine gate_callee (f:=36) rfl ?_);refine goesL_ (some 24) rfl rfl Try.func36 TK rfl #[.slice none 0 0,.int .i64 sz] rfl (by (try simp only [List.map_toArray,List.map_cons,List.map_nil]);first|done|rfl) ?_;(with_reducible refine (api_Slot_36.calls sz [] _ HG.out).mono ?_);rintro e w' ⟨v6,rfl,ho6,hb6⟩;refine ⟨_,rfl,?_⟩;have n0_:=Am (Kd.R_lower ho6 hb.out.size);have n1_:=Am (below_step hb.out hb6);clear ho6 hb6))
   clear hb
   go_loopg [6,27] (l0.length) (fun kx s6 s27 wr=> ∃ (i:Nat) (ii:Int),s27= .int .i64 ii∧Aside0 (ii=(i:Int))∧Aside0 (i≤l0.length)∧kx=l0.length - i∧Aside0 (Kd.R k42 42 wr w.heap.size (fun _=>True) s6 (l0.take i).flatten)∧Aside0 (Below w.heap.size w wr))
   case atStart=>exact ⟨0,0,rfl,⟨rfl⟩,⟨Nat.zero_le _⟩,rfl,n0_,n1_⟩
   case round =>
    clear n0_ n1_
    obtain ⟨j,jj,rfl,hjj,hjl,rfl,HO,hb⟩:=hrel
    have hj0:(0:Int)≤jj:=by rw [hjj.out];omega
    have hjb:jj < 1000000:=by rw [hjj.out];have:=hjl.out;have:=HL3.out;omega
    by_cases hj:j < l0.length
    ·
     have hj':jj < (l0.length:Int):=by rw [hjj.out];omega
     obtain ⟨ad,A1,c1,rfl,hcell,hlc,hC⟩:=at_L8 (Kd.C_below HR.out hb.out) jj hj0 hj'
     obtain ⟨y,hy⟩: ∃ y,y=rd_L8 l0 jj:=⟨_,rfl⟩
     rw [← hy] at hcell hC
     have hs:=api_Slot_19.step l0 j hj
     rw [← hjj.out,← hy] at hs
     have hle:=api_Slot_19.le l0 (j+1)
     rw [hs,List.length_append] at hle
     obtain ⟨x,hx⟩: ∃ x,x=(l0.take j).flatten:=⟨_,rfl⟩
     rw [← hx] at hs hle HO
     have HS:=Am hs
     have hn1:=Am (show jj+1=((j+1:Nat):Int) by rw [hjj.out];omega)
     have Hj:=Am hj
     have HC:=Am hC
     have hlim:=Am (show (x.length+y.length) * 48≤140737488355328 by have:=HLT.out;omega)
     obtain ⟨A6,c6,rfl⟩:=Kd.R_slice HO.out
     clear hs hle hj hC hlc hy hx
     go_wp2_with (first|((with_reducible refine gate_builtin (b:= .append) (xs:= #[.tmp 31,.tmp 32]) rfl ?_);at_builtin;refine Kd.R_append_rows k42 (w0:=w) w.heap.size rfl (.tmp 31) (.tmp 32) 27 42 (.agg #[(.int .i64 0),(.int .i64 0),(.int .i64 0),(.int .i64 0),(.int .i64 0),(.int .i64 0)]) 48 rfl Try.underlying27 info42 rfl (by decide) (by decide) (.slice A6 x.length c6) x y A1 y.length c1 (fun _=>True) (fun _=>False) rfl rfl HO.out HC.out (fun x cs hx=>by obtain rfl:=k42_open hx;exact k42_mkM _ _ _ _) (fun _ h=>h.elim) (fun _ _=>trivial) hb.out hb.out.size hlim.out ?_;intro v_ w1 ho hb1 hg1 hat;rw [← HS.out] at ho;have n0_:=Am ho;have n1_:=Am hb1;clear ho hb1 hg1 hat))
     go_roundg (l0.length - (j+1))
     case measure=>have:=Hj.out;omega
     case rel=>exact ⟨j+1,jj+1,rfl,hn1,⟨Hj.out⟩,rfl,n0_,n1_⟩
    ·
     have hj': ¬ jj < (l0.length:Int):=by rw [hjj.out];omega
     have HF:=HO.out
     rw [show j=l0.length by have:=hjl.out;omega,List.take_length] at HF
     have HF:=Am HF
     clear hj HO hjl
     go_wp2
     go_ret
     exact ⟨_,rfl,HF.out,hb.out⟩
end
def bits_Mul32.f (a0:Int) (a1:Int):Option (Int × Int):=some (((IntKind.u64.wrap ((IntKind.u64.wrap (a0)) * (IntKind.u64.wrap (a1)))) / 4294967296) % 4294967296,(IntKind.u64.wrap ((IntKind.u64.wrap (a0)) * (IntKind.u64.wrap (a1)))) % 4294967296)
set_option maxHeartbeats 8000000 in
theorem bits_Mul32.calls (a0:Int) (a1:Int) (r1:Int) (r2:Int) (w:World) (h:bits_Mul32.f a0 a1=some (r1,r2)) :
  Calls Try.prog 82 #[.int .u32 a0,.int .u32 a1] w fun e w'=>e= .returned (.tuple #[.int .u32 r1,.int .u32 r2])∧Drawn0 w w':=by
 have H:(some (((IntKind.u64.wrap ((IntKind.u64.wrap (a0)) * (IntKind.u64.wrap (a1)))) / 4294967296) % 4294967296,(IntKind.u64.wrap ((IntKind.u64.wrap (a0)) * (IntKind.u64.wrap (a1)))) % 4294967296))=some (r1,r2):=h
 clear h
 simp only [Option.some.injEq,Prod.mk.injEq] at H
 obtain ⟨rfl,rfl⟩:=H
 go_enter Try.func82,Try.ntmps82
 go_wp2
 go_ret2
 exact ⟨by first|rfl|(simp;done)|(simp [*];done),by repeat (first|exact Drawn0.refl _|apply Drawn0.step)⟩
def bits_Mul64.f (a0:Int) (a1:Int):Option (Int × Int):=some (IntKind.u64.wrap ((IntKind.u64.wrap ((IntKind.u64.wrap ((a0 / 4294967296) * (a1 / 4294967296)))+((IntKind.u64.wrap ((IntKind.u64.wrap ((a0 / 4294967296) * (Go.bits .and .u64 a1 4294967295)))+((IntKind.u64.wrap ((Go.bits .and .u64 a0 4294967295) * (Go.bits .and .u64 a1 4294967295))) / 4294967296))) / 4294967296)))+((IntKind.u64.wrap ((Go.bits .and .u64 (IntKind.u64.wrap ((IntKind.u64.wrap ((a0 / 4294967296) * (Go.bits .and .u64 a1 4294967295)))+((IntKind.u64.wrap ((Go.bits .and .u64 a0 4294967295) * (Go.bits .and .u64 a1 4294967295))) / 4294967296))) 4294967295)+(IntKind.u64.wrap ((Go.bits .and .u64 a0 4294967295) * (a1 / 4294967296))))) / 4294967296)),IntKind.u64.wrap (a0 * a1))
set_option maxHeartbeats 8000000 in
theorem bits_Mul64.calls (a0:Int) (a1:Int) (r1:Int) (r2:Int) (w:World) (h:bits_Mul64.f a0 a1=some (r1,r2)) :
  Calls Try.prog 83 #[.int .u64 a0,.int .u64 a1] w fun e w'=>e= .returned (.tuple #[.int .u64 r1,.int .u64 r2])∧Drawn0 w w':=by
 have H:(some (IntKind.u64.wrap ((IntKind.u64.wrap ((IntKind.u64.wrap ((a0 / 4294967296) * (a1 / 4294967296)))+((IntKind.u64.wrap ((IntKind.u64.wrap ((a0 / 4294967296) * (Go.bits .and .u64 a1 4294967295)))+((IntKind.u64.wrap ((Go.bits .and .u64 a0 4294967295) * (Go.bits .and .u64 a1 4294967295))) / 4294967296))) / 4294967296)))+((IntKind.u64.wrap ((Go.bits .and .u64 (IntKind.u64.wrap ((IntKind.u64.wrap ((a0 / 4294967296) * (Go.bits .and .u64 a1 4294967295)))+((IntKind.u64.wrap ((Go.bits .and .u64 a0 4294967295) * (Go.bits .and .u64 a1 4294967295))) / 4294967296))) 4294967295)+(IntKind.u64.wrap ((Go.bits .and .u64 a0 4294967295) * (a1 / 4294967296))))) / 4294967296)),IntKind.u64.wrap (a0 * a1)))=some (r1,r2):=h
 clear h
 simp only [Option.some.injEq,Prod.mk.injEq] at H
 obtain ⟨rfl,rfl⟩:=H
 go_enter Try.func83,Try.ntmps83
 go_wp2
 go_ret2
 exact ⟨by first|rfl|(simp;done)|(simp [*];done),by repeat (first|exact Drawn0.refl _|apply Drawn0.step)⟩
def bits_Mul.f (a0:Int) (a1:Int):Option (Int × Int):=(bits_Mul64.f a0 a1).bind fun bt213=>(some (bt213.1,bt213.2))
set_option maxHeartbeats 8000000 in
theorem bits_Mul.calls (a0:Int) (a1:Int) (r1:Int) (r2:Int) (w:World) (h:bits_Mul.f a0 a1=some (r1,r2)) :
  Calls Try.prog 55 #[.int .u64 a0,.int .u64 a1] w fun e w'=>e= .returned (.tuple #[.int .u64 r1,.int .u64 r2])∧Drawn0 w w':=by
 have H:((bits_Mul64.f a0 a1).bind fun bt213=>(some (bt213.1,bt213.2)))=some (r1,r2):=h
 clear h
 replace H:=Option.bind_eq_some_iff.mp H
 obtain ⟨⟨t213,t214⟩,A30,H⟩:=H
 try dsimp only at H
 have A3:=Am A30
 clear A30
 simp only [Option.some.injEq,Prod.mk.injEq] at H
 obtain ⟨rfl,rfl⟩:=H
 go_enter Try.func55,Try.ntmps55
 go_wp2_with (first|((with_reducible refine gate_callee (f:=83) rfl ?_);refine goesL_ (some 25) rfl rfl Try.func83 TK rfl #[.int .u64 a0,.int .u64 a1] rfl TM ?_;(with_reducible refine (bits_Mul64.calls a0 a1 t213 t214 _ A3.out).mono ?_);rintro e w' ⟨rfl,⟨nd,rfl⟩⟩;refine ⟨_,rfl,?_⟩))
 go_ret2
 exact ⟨by first|rfl|(simp;done)|(simp [*];done),by repeat (first|exact Drawn0.refl _|apply Drawn0.step)⟩
def api_Slot_37.f (l0:List S42) (a1:Int):Option (List S42):=if l0.length=1∧0≤a1∧a1 < 1000000 then some (List.replicate a1.toNat (rd_T42 l0 0)) else none
section
open Go.Proofs.YteoaegigjlhamaaH
theorem api_Slot_37.flat:Flat k42 (fun x=>[.int .i64 x.f0,.int .i64 x.f1,.int .i64 x.f2,.int .i64 x.f3,.int .i64 x.f4,.int .i64 x.f5]) :=
 ⟨fun w x cs=>⟨k42_open,fun h=>h▸k42_mk w x⟩,fun w base ok x cs=>⟨k42_openM,fun h=>h▸k42_mkM w base ok x⟩,by decide⟩
theorem api_Slot_37.mul (n:Int) (h0:0≤n) (h1:n < 1000000):bits_Mul.f 1 n=some (0,n):=by
 have hk: ∀ n:Int,0≤n→n < 2 ^ 64→IntKind.u64.wrap n=n:=fun n h0 h1=>by simp only [IntKind.wrap,IntKind.bits,IntKind.signed];simp;omega
 have e2:Go.bits .and .u64 n 4294967295=n:=by
  have:=bits_mask .u64 64 (by decide) hk 32 (by decide) n h0 (by omega)
  rw [show (2:Int) ^ 32 - 1=4294967295 by decide] at this
  rw [this]
  omega
 have e1:Go.bits .and .u64 1 4294967295=1:=by decide +kernel
 have e0:Go.bits .and .u64 0 4294967295=0:=by decide +kernel
 have e3:n / 4294967296=0:=by omega
 have w0:IntKind.u64.wrap 0=0:=by decide +kernel
 have wn:IntKind.u64.wrap n=n:=hk n h0 (by omega)
 simp only [bits_Mul.f,bits_Mul64.f,Option.bind_some,e1,e2,e3,show (1:Int) / 4294967296=0 by decide,Int.zero_mul,Int.one_mul,Int.mul_zero,w0,wn,Int.add_zero,Int.zero_add,e0,show (0:Int) / 4294967296=0 by decide]
theorem api_Slot_37.first {W:World} {base g N cap:Nat} {ad:Addr} {x:S42} (c0 ty:Nat) (HO:Kd.R k42 42 W base (fun _=>True) (.slice (some ⟨g,0,none⟩) N cap) (List.replicate N z42)) (hN:0 < N) (HC:Kd.C k42 W (some ad) 1 [x]) :
  ∃ W1 xs,(Builtin.copy_ #[27,27] ty #[.slice (some ⟨g,0,none⟩) N cap,.slice (some ad) 1 c0]).run Try.prog W= .ok (.int .i64 1) W1∧Kd.R k42 42 W1 base (fun _=>True) (.slice (some ⟨g,0,none⟩) N cap) xs∧xs.take 1=[x]∧W.grownBy W1 (some g):=by
 obtain ⟨W1,h1,h2,h3⟩:=api_Slot_37.flat.copy W 27 27 ty 42 Try.underlying27 TK HO hN 0 (Nat.zero_le _) cap 1 c0 ad [x] HC
 have e:Nat.min 1 (N - 0)=1:=Nat.min_eq_left (by omega)
 have e2:min 1 (N - 0)=1:=Nat.min_eq_left (by omega)
 rw [e,Nat.zero_mul,Nat.sub_zero] at h1
 rw [e2] at h2
 exact ⟨W1,_,h1,h2,by simp,h3⟩
theorem api_Slot_37.next {W:World} {base g N cap m:Nat} {x:S42} {xs:List S42} (c' ty:Nat) (HO:Kd.R k42 42 W base (fun _=>True) (.slice (some ⟨g,0,none⟩) N cap) xs) (h0:0 < m) (hm:m < N) (hx:xs.take m=List.replicate m x) :
  ∃ W1 xs1,(Builtin.copy_ #[27,27] ty #[.slice (some ⟨g,m * 6,none⟩) (N - m) c',.slice (some ⟨g,0,none⟩) m cap]).run Try.prog W= .ok (.int .i64 (min m (N - m):Nat)) W1∧Kd.R k42 42 W1 base (fun _=>True) (.slice (some ⟨g,0,none⟩) N cap) xs1∧xs1.take (m+min m (N - m))=List.replicate (m+min m (N - m)) x∧W.grownBy W1 (some g):=by
 have hN:=(Kd.R_reads' HO).1
 have HC:=Kd.C_take (Kd.R_reads' HO).2.2 (m:=m) (by omega)
 rw [List.length_take,Nat.min_eq_left (by omega:m≤xs.length)] at HC
 obtain ⟨W1,h1,h2,h3⟩:=api_Slot_37.flat.copy W 27 27 ty 42 Try.underlying27 TK HO (by omega) m (Nat.le_of_lt hm) c' m cap ⟨g,0,none⟩ (xs.take m) HC
 refine ⟨W1,_,h1,h2,?_,h3⟩
 have hl:(xs.take m++(xs.take m).take (min m (N - m))).length=m+min m (N - m):=by
  simp only [List.length_append,List.length_take]
  omega
 rw [List.take_append_of_le_length (by rw [hl];exact Nat.le_refl _),List.take_of_length_le (by rw [hl];exact Nat.le_refl _),hx,List.take_replicate,List.replicate_append_replicate,Nat.min_eq_left (Nat.min_le_left _ _)]
set_option maxHeartbeats 2000000 in
theorem api_Slot_37.calls (A0:Option Addr) (c0:Nat) (l0:List S42) (a1:Int) (r:List S42) (w:World) (hr0:Kd.C k42 w A0 l0.length l0) (hc0:l0.length≤c0) (h:api_Slot_37.f l0 a1=some r) :
  Calls Try.prog 37 #[.slice A0 l0.length c0,.int .i64 a1] w fun e w'=> ∃ v0_:Value,e= .returned v0_∧Kd.R k42 42 w' w.heap.size (fun _=>True) v0_ r∧Below w.heap.size w w':=by
 unfold api_Slot_37.f at h
 split at h
 rotate_left
 ·
  cases h
 rename_i hl
 obtain rfl:=Option.some.inj h
 obtain ⟨hl0,h0,h1⟩:=hl
 clear h
 obtain ⟨x,rfl⟩: ∃ x,l0=[x]:=by
  cases l0 with
  | nil=>cases hl0
  | cons x r=>cases r with
   | nil=>exact ⟨x,rfl⟩
   | cons y r=>simp at hl0
 rw [show rd_T42 [x] 0=x from rfl]
 simp only [List.length_cons,List.length_nil,Nat.zero_add] at hr0 hc0 ⊢
 clear hl0
 obtain ⟨ad,hA,_⟩:=hr0.2.2 (by decide)
 subst hA
 have HR:=Am hr0
 have HB:=Am (Below.refl w.heap.size w)
 have HM:=Am (api_Slot_37.mul a1 h0 h1)
 obtain ⟨i0,hi0,_,hsz,_⟩:=info_parts info42
 have hss:(Try.prog.info? 42).map (·.size)=some 6:=by kernel_rfl
 have hs1:=Am hss
 have hn: ¬ a1 < 0:=by omega
 have hw1:IntKind.u64.wrap a1=a1:=by simp only [IntKind.wrap,IntKind.bits,IntKind.signed];simp;omega
 have hw2:IntKind.u64.wrap 1=1:=by decide +kernel
 have hw3:IntKind.i64.wrap a1=a1:=by rw [IntKind.wrap_i64];omega
 have hm: ¬ a1 > 9223372036854775807:=by omega
 have hc:=Am hc0
 clear hr0 hss hc0
 rcases Int.lt_or_eq_of_le h0 with hp|hz
 rotate_left
 ·
  subst hz
  have hcp:=fun (ty:TypeId) (d:Option Addr) (dc:Nat) (W:World)=>copy_noneS (P:=Try.prog) 6 W 27 27 ty 42 d (some ad) dc 1 c0 Try.underlying27 hs1.out
  go_enter Try.func37,Try.ntmps37
  go_wp2_with (first|((with_reducible refine gate_callee (f:=55) rfl ?_);refine goesL_ (some 18) rfl rfl Try.func55 TK rfl #[.int .u64 1,.int .u64 0] rfl (by (try simp only [List.map_toArray,List.map_cons,List.map_nil]);first|done|rfl) ?_;(with_reducible refine (bits_Mul.calls 1 0 0 0 _ HM.out).mono ?_);rintro e w' ⟨rfl,⟨nd,rfl⟩⟩;refine ⟨_,rfl,?_⟩)|((with_reducible refine gate_dst (N:=30) rfl ?_);refine Kd.R_make k42 (w0:=w) w.heap.size 42 rfl rfl 27 (.tmp 29) (.tmp 29) rfl 0 rfl rfl Try.underlying27 (.agg #[(.int .i64 0),(.int .i64 0),(.int .i64 0),(.int .i64 0),(.int .i64 0),(.int .i64 0)]) 48 info42 rfl (by decide) (by decide) z42 (ok:=fun _=>True) (okp:=fun _=>True) (k42_mkM _ _ _ _) (fun _ _=>trivial) trivial (Int.le_refl 0) (by decide) (pw_below_drewN HB.out nd) (by exact (pw_below_drewN HB.out nd).size) ?_;intro v1 w1 ho hb _ _;obtain ⟨A1,c1,rfl⟩:=Kd.R_slice ho;have n0_:=Am ho;have n1_:=Am hb;clear ho hb))
  go_loopg [8] 0 (fun kx s8 wr=>s8= .int .i64 0∧Aside0 (Kd.R k42 42 wr w.heap.size (fun _=>True) (.slice A1 0 c1) [])∧Aside0 (Below w.heap.size w wr))
  case atStart=>exact ⟨rfl,n0_,n1_⟩
  case round =>
   obtain ⟨rfl,m0_,m1_⟩:=hrel
   go_wp2
   go_ret
   exact ⟨_,rfl,m0_.out,m1_.out⟩
 ·
  obtain ⟨N,hN⟩:=Int.eq_ofNat_of_zero_le h0
  have HN:=Am hN
  have hNp:=Am (show 0 < N by omega)
  clear hN
  go_enter Try.func37,Try.ntmps37
  go_wp2_with (first|((with_reducible refine gate_callee (f:=55) rfl ?_);refine goesL_ (some 18) rfl rfl Try.func55 TK rfl #[.int .u64 1,.int .u64 a1] rfl (by (try simp only [List.map_toArray,List.map_cons,List.map_nil]);first|done|rfl) ?_;(with_reducible refine (bits_Mul.calls 1 a1 0 a1 _ HM.out).mono ?_);rintro e w' ⟨rfl,⟨nd,rfl⟩⟩;refine ⟨_,rfl,?_⟩)|((with_reducible refine gate_dst (N:=30) rfl ?_);refine Kd.R_make k42 (w0:=w) w.heap.size 42 rfl rfl 27 (.tmp 29) (.tmp 29) rfl a1 rfl rfl Try.underlying27 (.agg #[(.int .i64 0),(.int .i64 0),(.int .i64 0),(.int .i64 0),(.int .i64 0),(.int .i64 0)]) 48 info42 rfl (by decide) (by decide) z42 (ok:=fun _=>True) (okp:=fun _=>True) (k42_mkM _ _ _ _) (fun _ _=>trivial) trivial h0 (by omega) (pw_below_drewN HB.out nd) (by exact (pw_below_drewN HB.out nd).size) ?_;intro v1 w1 ho hb _ _;rw [show a1.toNat=N by have:=HN.out;omega] at ho;obtain ⟨g,cap,hv,_⟩:=Kd.R_form ho (by rw [List.length_replicate];exact hNp.out);rw [List.length_replicate] at hv;subst hv;obtain ⟨w2,xs2,hc2,hR2,hx2,hg2⟩:=api_Slot_37.first c0 3 ho hNp.out (Kd.C_below HR.out hb);have n0_:=Am hR2;have n1_:=Am (hb.grown hg2 hb.size (fun k hk=>Kd.R_base ho k hk));have n2_:=Am hx2;have n4_:=Am (Kd.R_reads' ho).2.1;clear ho hb hR2 hx2 hg2))
  go_loopg [8] (N - 1) (fun kx s8 wr=> ∃ (m:Nat) (ii:Int) (xs:List S42),s8= .int .i64 ii∧Aside0 (ii=(m:Int))∧Aside0 (0 < m∧m≤N)∧kx=N - m∧Aside0 (Kd.R k42 42 wr w.heap.size (fun _=>True) (.slice (some ⟨g,0,none⟩) N cap) xs)∧Aside0 (xs.take m=List.replicate m x)∧Aside0 (Below w.heap.size w wr))
  case atStart=>exact ⟨1,1,xs2,rfl,⟨rfl⟩,⟨by decide,hNp.out⟩,rfl,n0_,⟨n2_.out.trans rfl⟩,n1_⟩
  case round =>
   clear n0_ n1_ n2_
   obtain ⟨m,ii,xs,rfl,hii,hmm,rfl,HX,hx,hb⟩:=hrel
   by_cases hi:m < N
   ·
    have hi':ii < (N:Int):=by rw [hii.out];omega
    have hw4:IntKind.i64.wrap (ii+(min m (N - m):Nat))=((m+min m (N - m):Nat):Int):=by
     rw [IntKind.wrap_i64,hii.out]
     have:=HN.out
     omega
    obtain ⟨w3,xs3,hc3,hR3,hx3,hg3⟩:=api_Slot_37.next (W:=wr.drew) (cap - m) 3 (Kd.R_drew HX.out) hmm.out.1 hi hx.out
    have hq0: ∀ W:World,(Instr.sliceAt 27 (.slice (some ⟨g,0,none⟩) N cap) (some (.int .i64 ii)) none none).run Try.prog W= .ok (.slice (some ⟨g,m * 6,none⟩) (N - m) (cap - m)) W:=by
     have h1:=cut_from (P:=Try.prog) 27 42 .i64 Try.underlying27 hi0 6 hsz (some ⟨g,0,none⟩) N cap ii (by rw [hii.out];omega) (by omega)
     rw [show ii.toNat=m by rw [hii.out];omega,if_neg (by have:=n4_.out;omega),Option.map_some,add_plain] at h1
     exact fun W=>(run_sliceAt_slice W 27 _ _ _ _ (by rw [show (Try.prog).elem 27=42 from by kernel_rfl];exact Try.underlying27)).trans (h1 W)
    have hq1: ∀ W:World,(Instr.sliceAt 27 (.slice (some ⟨g,0,none⟩) N cap) none (some (.int .i64 ii)) none).run Try.prog W= .ok (.slice (some ⟨g,0,none⟩) m cap) W:=by
     have h1:=cut_to (P:=Try.prog) 27 42 .i64 Try.underlying27 hi0 (some ⟨g,0,none⟩) N cap ii (by rw [hii.out];omega) (by omega) n4_.out
     rw [show ii.toNat=m by rw [hii.out];omega] at h1
     exact fun W=>(run_sliceAt_slice W 27 _ _ _ _ (by rw [show (Try.prog).elem 27=42 from by kernel_rfl];exact Try.underlying27)).trans (h1 W)
    have Hi:=Am hi
    have H3:=Am hR3
    have HX3:=Am hx3
    have HB3:=Am ((below_drew hb.out).grown hg3 hb.out.size (fun k hk=>by injection hk with hk;rw [← hk];exact Kd.R_base HX.out g (by simp [Value.ownBlock])))
    clear hi hR3 hx3 hg3
    go_upto_region 9 with (fail)
    go_region_law (refine copy_step rfl (.tmp 41) (.tmp 44) 27 27 rfl _ _ (by simp [Act.eval,Act.put]) (by simp [Act.eval,Act.put]) hc3 ?_)
    simp only [Act.put,List.getElem_toArray,List.getElem_cons_succ,List.getElem_cons_zero,List.setIfInBounds_toArray,List.set_cons_succ,List.set_cons_zero]
    go_wp2
    go_roundg (N - (m+min m (N - m)))
    case measure=>have:=hmm.out;have:=Hi.out;omega
    case rel=>exact ⟨m+min m (N - m),_,xs3,rfl,⟨(Int.natCast_add _ _).symm⟩,⟨by have:=hmm.out;omega,by have:=hmm.out;omega⟩,rfl,H3,HX3,HB3⟩
   ·
    have hi': ¬ ii < (N:Int):=by rw [hii.out];omega
    have hxx:xs=List.replicate N x:=by
     have e:=hx.out
     rw [show m=N by have:=hmm.out;omega,List.take_of_length_le (by rw [← (Kd.R_reads' HX.out).1];exact Nat.le_refl _)] at e
     exact e
    have HF:=Am (hxx▸HX.out)
    clear hi hxx
    go_wp2
    go_ret
    exact ⟨_,rfl,by rw [show a1.toNat=N by have:=HN.out;omega];exact HF.out,hb.out⟩
end
def place_pads.f (a0:Int):Option ((List (S42))):=(api_Slot_37.f (([(⟨2,0,0,0,0,0⟩:S42)]:List (S42))) (mx a0 0)).bind fun t218=>(some t218)
set_option maxHeartbeats 8000000 in
theorem place_pads.calls (a0:Int) (r:List (S42)) (w:World) (h:place_pads.f a0=some r) :
  Calls Try.prog 20 #[.int .i64 a0] w fun e w'=> ∃ v0_:Value,e= .returned (v0_)∧Kd.R k42 42 w' w.heap.size (fun _=>True) v0_ r∧Below w.heap.size w w':=by
 have hu42:=Try.underlying42
 have HB:=Am (Below.refl w.heap.size w)
 have H:((api_Slot_37.f (([(⟨2,0,0,0,0,0⟩:S42)]:List (S42))) (mx a0 0)).bind fun t218=>(some t218))=some r:=h
 clear h
 obtain ⟨y215,hy215⟩: ∃ y_:List (S42),y_=(([(⟨2,0,0,0,0,0⟩:S42)]:List (S42))):=⟨_,rfl⟩
 replace H:((api_Slot_37.f y215 (mx a0 0)).bind fun t218=>(some t218))=some r:=by first|(rw [hy215];with_reducible exact H)|(have H2_:=(Option.bind_some _ _).symm.trans H;rw [hy215];with_reducible exact H2_)|(have H2_:=(Option.bind_some _ _).symm.trans H;with_reducible exact H2_)|with_reducible exact H|(rw [hy215];exact H)|exact H
 have Ny215:=Am hy215
 clear hy215
 obtain ⟨ji2,hji2⟩: ∃ j_:Int,(mx a0 0)=j_:=⟨_,rfl⟩
 replace H:((api_Slot_37.f y215 (ji2)).bind fun t218=>(some t218))=some r:=by first|(rw [hji2] at H;exact H)|(simp only [hji2] at H ⊢;exact H)
 (try (have hji2l:0≤ji2:=by (rw [← hji2];unfold mx;(repeat' split) <;> omega)))
 (try (have hji2m:0≤ji2:=by omega))
 have hji2_:(if a0 < 0 then 0 else a0)=ji2:=hji2
 obtain ⟨t218,A30,H⟩:=Option.bind_eq_some_iff.mp H
 try dsimp only at H
 have A3:=Am A30
 clear A30
 obtain rfl:=Option.some.inj H
 go_enter Try.func20,Try.ntmps20
 go_wp2_with (first|((with_reducible refine gate_dst (N:=4) rfl ?_);refine Kd.R_lit k42 _ 42 ?hg (N:=4) ?hd (xs:=([(⟨2,0,0,0,0,0⟩:S42)]:List (S42))) (inner:=[.int .i64 2,.int .i64 0,.int .i64 0,.int .i64 0,.int .i64 0,.int .i64 0]) (ok:=fun _=>True) (okp:=fun _=>True) ?hr ?hp (fun _ hk=>hk) trivial (Below.refl _ _) (Nat.le_refl _) (by simp) ?_;(case hd=>rfl);(case hg=>rfl);(case hr=>exact TG);(case hp=>exact (Reps.c6 (show Kd.M k42 _ _ _ (⟨2,0,0,0,0,0⟩:S42) [.int .i64 2,.int .i64 0,.int .i64 0,.int .i64 0,.int .i64 0,.int .i64 0] from (k42_mkM _ _ _ (⟨2,0,0,0,0,0⟩:S42))) (Reps.none _ _)));intro v216 w4 ho5 hb hg_ hnew_;clear hg_ hnew_;(first|rw [← Ny215.out] at ho5|(simp only [Int.reduceToNat] at ho5;rw [← Ny215.out] at ho5));have HO217:=Am (Kd.R_lower ho5 (below_size TB));replace HB:=Am (below_step TB hb);clear hb ho5;obtain ⟨Ao6,co6,eo6⟩:=Kd.R_slice HO217.out;subst eo6)|((with_reducible refine gate_callee (f:=37) rfl ?_);refine goesL_ (some 7) rfl rfl Try.func37 TK rfl #[.slice Ao6 y215.length co6,.int .i64 ji2] rfl (by (try simp only [List.map_toArray,List.map_cons,List.map_nil]);first|done|(simp only [hji2];rfl)|rfl|(simp only [List.length_drop,List.length_take];rfl)) ?_;(with_reducible refine (api_Slot_37.calls _ _ y215 ji2 t218 _ ?side1 ?side2 A3.out).mono ?_);(case side1=>exact CU ((Kd.R_reads' HO217.out).2.2));(case side2=>exact (Kd.R_reads' HO217.out).2.1);rintro e w7 ⟨v219,rfl,ho0,hb⟩;refine ⟨_,rfl,?_⟩;have HO220:=Am (Kd.R_lower (Kd.R_new' ho0 (Kd.R_lt (RU HO217.out))) (below_size TB));replace HO217:=Am (Kd.R_elder' (RU HO217.out) (Kd.R_base ho0) hb);replace HB:=Am (below_step TB hb);(try clear hb);(try clear hb2);(try clear hk);(try clear hi);(try clear ho0)))
 go_ret
 exact ⟨_,by first|rfl|(simp [errW_none,errW_some] <;> rfl)|(simp only [← hji2];first|rfl|(simp [errW_none,errW_some] <;> rfl))|(simp [*,errW_none,errW_some] <;> rfl),RU (Kd.R_mono HO220.out (fun _ hk=>trivial)),TB⟩
def place_Slots.left (a5 x:Int):Int:=if a5=3 then x else if a5=4 then x / 2 else 0
def place_Slots.lay (t:List S42) (a4 a5:Int):Option (List S42 × Int) :=
 (place_pads.f (place_Slots.left a5 (a4 - (min t.length a4.toNat:Nat)))).bind fun p=>(place_pads.f (a4 - (min t.length a4.toNat:Nat) - place_Slots.left a5 (a4 - (min t.length a4.toNat:Nat)))).bind fun q =>
 (api_Slot_19.f [p,t.take (min t.length a4.toNat),q]).bind fun r=>some (r,0)
def place_Slots.bad (n m:Nat) (a3 a4 a5:Int):Prop:=n≠m∨(a3≠0∧a3≠1)∨a4 < 1∨a4 > 1024∨a5 < 2∨a5 > 4
instance place_Slots.badD (n m:Nat) (a3 a4 a5:Int):Decidable (place_Slots.bad n m a3 a4 a5):=by unfold place_Slots.bad;infer_instance
def place_Slots.f (k:Nat) (l0:List S36) (l1:List Int) (a2_0 a2_1 a2_2 a2_3 a2_4 a3 a4 a5:Int):Option (List S42 × Int) :=
 if place_Slots.bad l0.length l1.length a3 a4 a5 then some ([],1) else
 (place_begin.f l0 l1 a2_0 a2_1 a2_2 a2_3 a2_4 a3).bind fun b=>if b.2.2.2.2.2.2.2.2=true then (place_laid_text.f k b.1 b.2.1 b.2.2.1 b.2.2.2.1 b.2.2.2.2.1 b.2.2.2.2.2.1 b.2.2.2.2.2.2.1 b.2.2.2.2.2.2.2.1 a3).bind fun t=>place_Slots.lay t a4 a5 else some ([],4)
theorem place_Slots.mono: ∀ a0 a1 a2 a3 a4 a5 a6 a7 a8 a9 k,LeO (place_Slots.f k a0 a1 a2 a3 a4 a5 a6 a7 a8 a9) (place_Slots.f (k+1) a0 a1 a2 a3 a4 a5 a6 a7 a8 a9):=by
 intro a0 a1 a2 a3 a4 a5 a6 a7 a8 a9 k
 unfold place_Slots.f
 refine LeO.ite (LeO.refl _) (LeO.bind (LeO.refl _) (fun b=>LeO.ite (LeO.bind ?_ (fun _=>LeO.refl _)) (LeO.refl _)))
 exact place_laid_text.mono _ _ _ _ _ _ _ _ _ k
section
open Go.Proofs.YteoaegigjlhamaaH Go.Maps
theorem place_Slots.key:Keyed Try.prog 3:=int_keyed Try.underlying3
theorem place_Slots.zero (w:World):(zeroValue 3).run Try.prog w= .ok (.int .i64 0) w:=by kernel_rfl
theorem place_Slots.wf {q:Int} (h0: -9223372036854775808≤q) (h1:q≤9223372036854775807):(Lit.int .i64 q).wf=true:=by
 have:=wrap64_wf q
 rwa [show wrap64 q=q by unfold wrap64;omega] at this
theorem place_Slots.maps (w:World) (x y q:Int) (hx:0≤x) (hx1:x < 1000000) (hy:0≤y) (hy1:y < 1000000) (hq:q=2∨q=3∨q=4) :
  ∃ wA wB,(Instr.mapUpdate 54 (.map (some w.heap.size)) (.int .i64 3) (.int .i64 x)).run Try.prog (w.alloc (.map #[] 0))= .ok () wA∧(Instr.mapUpdate 54 (.map (some w.heap.size)) (.int .i64 4) (.int .i64 y)).run Try.prog wA= .ok () wB ∧
   (Instr.lookup 54 (.map (some w.heap.size)) (.int .i64 q) false).run Try.prog wB= .ok (.int .i64 (if q=3 then x else if q=4 then y else 0)) wB∧Below w.heap.size w wB:=by
 have m0:(w.alloc (.map #[] 0)).ownsMap Try.prog 3 (plainElem (H:=Unit) Try.prog 3) w.heap.size 0 (.map []):=World.ownsMap_made _ _ _ _
 obtain ⟨wA,r1,m1,g1⟩:=m0.update place_Slots.key Try.underlying54 (by unfold maxLen;omega) (keyOf_int_mk Try.underlying3 (place_Slots.wf (q:=3) (by decide) (by decide))) (plainElem_int (H:=Unit) Try.underlying3 (place_Slots.wf (q:=x) (by omega) (by omega)))
 obtain ⟨wB,r2,m2,g2⟩:=m1.update place_Slots.key Try.underlying54 (by unfold maxLen;omega) (keyOf_int_mk Try.underlying3 (place_Slots.wf (q:=4) (by decide) (by decide))) (plainElem_int (H:=Unit) Try.underlying3 (place_Slots.wf (q:=y) (by omega) (by omega)))
 obtain ⟨c,r3,hat,_⟩:=m2.lookup_int place_Slots.key Try.underlying54 Try.underlying3 (place_Slots.zero wB) (keyOf_int_mk Try.underlying3 (place_Slots.wf (q:=q) (by omega) (by omega)))
 have kl: ∀ q:Int,WideAt.IsKeyLit (.int .i64 q):=fun q=>by constructor
 have hne: ∀ p q:Int,p≠q→(Lit.int .i64 p)≠ .int .i64 q:=fun p q h e=>by injection e with _ e;exact h e
 have hc:c=if q=3 then x else if q=4 then y else 0:=by
  rcases hq with rfl|rfl|rfl
  ·
   rw [atKey_put_other (hne 2 4 (by decide)),atKey_put_other (hne 2 3 (by decide))] at hat
   have e:(DataW.lit (.int .i64 0):DataW Unit)= .lit (.int .i64 c):=hat
   injection e with e
   injection e with _ e
   simp [← e]
  ·
   rw [atKey_put_other (hne 3 4 (by decide)),atKey_put_same m0.isMap (kl 3)] at hat
   injection hat with e
   injection e with _ e
   simp [← e]
  ·
   rw [atKey_put_same m1.isMap (kl 4)] at hat
   injection hat with e
   injection e with _ e
   simp [← e]
 rw [hc] at r3
 refine ⟨wA,wB,r1,r2,r3,?_⟩
 have b0:Below w.heap.size w (w.alloc (.map #[] 0)):=below_alloc (Below.refl _ _) _
 have b1:Below w.heap.size w wA:=b0.grown g1 b0.size (fun k hk=>by injection hk with hk;omega)
 exact b1.grown g2 b1.size (fun k hk=>by injection hk with hk;omega)
theorem place_Slots.three (W:World) (h:Nat) (t:TypeId) (A1 A2 A3:Option Addr) (c1 c2 c3:Nat) (x y z:List S42) (hh:W.heap[h]?=some (.cells #[.slice A1 x.length c1,.slice A2 y.length c2,.slice A3 z.length c3] t (0,0)))
  (k1:x.length≤c1) (k2:y.length≤c2) (k3:z.length≤c3) (h1:Kd.C k42 W A1 x.length x) (h2:Kd.C k42 W A2 y.length y) (h3:Kd.C k42 W A3 z.length z) :
  Kd.C (Kd.slice 42 k42) W (some ⟨h,0,none⟩) 3 [x,y,z]:=by
 refine ⟨rfl,by decide,fun _=>⟨_,rfl,fun j p hj=>?_⟩⟩
 have hcell: ∀ i,W.cell? ((⟨h,0,none⟩:Addr).add i)= #[Value.slice A1 x.length c1,.slice A2 y.length c2,.slice A3 z.length c3][i]?:=fun i=>by rw [add_plain];exact blk_cell hh i
 match j,hj with
 | 0,hj =>
  obtain rfl:x=p:=by simpa using hj
  exact ⟨[_],rfl,⟨A1,c1,rfl,k1,h1⟩,fun i u hu=>by cases i with|zero=>simp at hu;subst hu;exact hcell _|succ i=>simp at hu⟩
 | 1,hj =>
  obtain rfl:y=p:=by simpa using hj
  exact ⟨[_],rfl,⟨A2,c2,rfl,k2,h2⟩,fun i u hu=>by cases i with|zero=>simp at hu;subst hu;exact hcell _|succ i=>simp at hu⟩
 | 2,hj =>
  obtain rfl:z=p:=by simpa using hj
  exact ⟨[_],rfl,⟨A3,c3,rfl,k3,h3⟩,fun i u hu=>by cases i with|zero=>simp at hu;subst hu;exact hcell _|succ i=>simp at hu⟩
 | n+3,hj=>simp at hj
theorem place_Slots.concat (h:Nat) (x y z r:List S42) (W:World) (hc:Kd.C (Kd.slice 42 k42) W (some ⟨h,0,none⟩) 3 [x,y,z]) (hr:api_Slot_19.f [x,y,z]=some r) :
  Calls Try.prog 19 #[.slice (some ⟨h,0,none⟩) 3 3] W fun e w'=> ∃ v0_:Value,e= .returned v0_∧Kd.R k42 42 w' W.heap.size (fun _=>True) v0_ r∧Below W.heap.size W w':=api_Slot_19.calls (some ⟨h,0,none⟩) 3 [x,y,z] r W hc (Nat.le_refl 3) hr
set_option maxHeartbeats 8000000 in
theorem place_Slots.calls (k:Nat) (A0:Option Addr) (c0:Nat) (l0:List S36) (A1:Option Addr) (c1:Nat) (l1:List Int) (a2_0 a2_1 a2_2 a2_3 a2_4 a3 a4 a5:Int) (r1:List S42) (r2:Int) (w:World) (hr0:Kd.C k36 w A0 l0.length l0) (hc0:l0.length≤c0) (hr1:Kd.C (Kd.int .i64) w A1 l1.length l1) (hc1:l1.length≤c1) (h:place_Slots.f k l0 l1 a2_0 a2_1 a2_2 a2_3 a2_4 a3 a4 a5=some (r1,r2)) :
  Calls Try.prog 8 #[.slice A0 l0.length c0,.slice A1 l1.length c1,.agg #[.int .i64 a2_0,.int .i64 a2_1,.int .i64 a2_2,.int .i64 a2_3,.int .i64 a2_4],.int .i64 a3,.int .i64 a4,.int .i64 a5] w fun e w'=> ∃ v0_:Value,e= .returned (.tuple #[v0_,.int .i64 r2])∧Kd.R k42 42 w' w.heap.size (fun _=>True) v0_ r1∧Below w.heap.size w w':=by
 have HR0:=Am hr0
 have HC0:=Am hc0
 have HR1:=Am hr1
 have HC1:=Am hc1
 clear hr0 hc0 hr1 hc1
 unfold place_Slots.f at h
 by_cases hbad:place_Slots.bad l0.length l1.length a3 a4 a5
 ·
  rw [if_pos hbad] at h
  obtain ⟨rfl,rfl⟩:=Prod.mk.inj (Option.some.inj h)
  clear h
  have key:(l0.length≠l1.length)∨(l0.length=l1.length∧a3≠0∧a3≠1)∨(l0.length=l1.length∧(a3=0∨a3=1)∧(a4 < 1∨(¬ a4 < 1∧a4 > 1024)∨(¬ a4 < 1∧ ¬ a4 > 1024∧a5 < 2)∨(¬ a4 < 1∧ ¬ a4 > 1024∧ ¬ a5 < 2∧a5 > 4))):=by
   unfold place_Slots.bad at hbad
   omega
  clear hbad
  rcases key with q|⟨q,q2,q3⟩|⟨q,(rfl|rfl),(q4|⟨q4,q5⟩|⟨q4,q5,q6⟩|⟨q4,q5,q6,q7⟩)⟩
  ·
   have cq:((l0.length:Int) !=(l1.length:Int))=true:=bne_iff_ne.mpr (by omega)
   clear q
   go_enter Try.func8,Try.ntmps8
   go_wp2
   go_ret2
   exact ⟨_,rfl,Kd.R_nil _ _ _ _ _,below_alloc (Below.refl _ _) _⟩
  all_goals
   have cq:((l0.length:Int) !=(l1.length:Int))=false:=bne_eq_false_iff_eq.mpr (by omega)
   clear q
   go_enter Try.func8,Try.ntmps8
   go_wp2
   go_ret2
   exact ⟨_,rfl,Kd.R_nil _ _ _ _ _,below_alloc (Below.refl _ _) _⟩
 ·
  rw [if_neg hbad] at h
  have hg:l0.length=l1.length∧(a3=0∨a3=1)∧ ¬ a4 < 1∧ ¬ a4 > 1024∧ ¬ a5 < 2∧ ¬ a5 > 4:=by
   unfold place_Slots.bad at hbad
   omega
  clear hbad
  obtain ⟨q,q2,q4,q5,q6,q7⟩:=hg
  have cq:((l0.length:Int) !=(l1.length:Int))=false:=bne_eq_false_iff_eq.mpr (by omega)
  clear q
  obtain ⟨⟨b1,b2,b3,b4,b5,b6,b7,b8,b9⟩,hb,h⟩:=Option.bind_eq_some_iff.mp h
  have HBG:=Am hb
  have HH:=Am h
  clear hb h
  rcases q2 with rfl|rfl
  all_goals
   go_enter Try.func8,Try.ntmps8
   go_upto_region 4 with (go_at_call 17;refine (place_begin.calls _ _ l0 _ _ l1 a2_0 a2_1 a2_2 a2_3 a2_4 _ b1 b2 b3 b4 b5 b6 b7 b8 b9 _ (Kd.C_alloc HR0.out _) HC0.out (Kd.C_alloc HR1.out _) HC1.out HBG.out).mono ?_;rintro e w2 ⟨v5,v6,rfl,h5,h6,hb2⟩;obtain ⟨A5,c5,rfl,k5,r5⟩:=Kd.R_reads h5;obtain ⟨A6,c6,rfl,k6,r6⟩:=Kd.R_reads h6;have n1_:=Am r5;have n2_:=Am k5;have n3_:=Am r6;have n4_:=Am k6;have n5_:=Am (below_step (below_alloc (Below.refl w.heap.size w) _) hb2);clear h5 h6 hb2 r5 k5 r6 k6)
   cases b9 with
   | false =>
    have h:=HH.out
    rw [if_neg (by decide)] at h
    obtain ⟨rfl,rfl⟩:=Prod.mk.inj (Option.some.inj h)
    clear h HH HBG
    go_wp2
    go_ret2
    exact ⟨_,rfl,Kd.R_nil _ _ _ _ _,below_alloc n5_.out _⟩
   | true =>
    have h:=HH.out
    rw [if_pos rfl] at h
    obtain ⟨t,ht,h⟩:=Option.bind_eq_some_iff.mp h
    have HT:=Am ht
    clear HH HBG ht
    go_upto_region 7 with (go_at_call 18;refine (place_laid_text.calls k b1 b2 b3 b4 b5 _ _ b6 _ _ b7 b8 _ t _ (Kd.C_alloc n1_.out _) n2_.out (Kd.C_alloc n3_.out _) n4_.out HT.out).mono ?_;rintro e w3 ⟨v7,rfl,h7,hb3⟩;obtain ⟨A7,c7,rfl,k7,r7⟩:=Kd.R_reads h7;have m1_:=Am r7;have m2_:=Am k7;have m3_:=Am (below_step (below_alloc n5_.out _) hb3);clear h7 hb3 r7 k7)
    clear n1_ n2_ n3_ n4_ n5_ HT
    unfold place_Slots.lay at h
    obtain ⟨ml,hml⟩: ∃ ml:Nat,ml=min t.length a4.toNat:=⟨_,rfl⟩
    rw [← hml] at h
    obtain ⟨mv,hmv⟩: ∃ mv:Int,mv=(ml:Int):=⟨_,rfl⟩
    have hmm1:(if a4 < (t.length:Int) then a4 else (t.length:Int))=mv:=by rw [hmv,hml];split <;> omega
    obtain ⟨fr,hfr⟩: ∃ fr:Int,fr=a4 - (ml:Int):=⟨_,rfl⟩
    rw [← hfr] at h
    have hf0:0≤fr:=by omega
    have hf1:fr < 1000000:=by omega
    have hw1:wrap64 (a4 - (ml:Int))=fr:=by rw [← hfr];unfold wrap64;omega
    have hw2:IntKind.i64.wrap (a4 - (ml:Int))=fr:=by rw [← hfr,IntKind.wrap_i64];omega
    obtain ⟨hf,hhf⟩: ∃ hf:Int,hf=fr / 2:=⟨_,rfl⟩
    have hd1:fr.tdiv 2=hf:=by rw [hhf,Int.tdiv_eq_ediv_of_nonneg hf0]
    have hd2:fr / 2=hf:=hhf.symm
    have hd3:IntKind.i64.wrap hf=hf:=by rw [IntKind.wrap_i64];omega
    have hd4:wrap64 hf=hf:=by unfold wrap64;omega
    obtain ⟨lf,hlf⟩: ∃ lf:Int,lf=place_Slots.left a5 fr:=⟨_,rfl⟩
    rw [← hlf] at h
    obtain ⟨wA,wB,u1,u2,u3,u4⟩:=place_Slots.maps w3 fr hf a5 hf0 hf1 (by omega) (by omega) (by omega)
    rw [show (if a5=3 then fr else if a5=4 then hf else 0)=lf by rw [hlf,hhf];rfl] at u3
    have hl0:0≤lf∧lf≤fr:=by rw [hlf];unfold place_Slots.left;split <;> (try split) <;> omega
    obtain ⟨rr,hrr⟩: ∃ rr:Int,rr=fr - lf:=⟨_,rfl⟩
    rw [← hrr] at h
    have hw3:wrap64 (fr - lf)=rr:=by rw [← hrr];unfold wrap64;omega
    have hw4:IntKind.i64.wrap (fr - lf)=rr:=by rw [← hrr,IntKind.wrap_i64];omega
    obtain ⟨pl,hpl,h⟩:=Option.bind_eq_some_iff.mp h
    obtain ⟨pr,hpr,h⟩:=Option.bind_eq_some_iff.mp h
    obtain ⟨rs,hrs,h⟩:=Option.bind_eq_some_iff.mp h
    obtain ⟨rfl,rfl⟩:=Prod.mk.inj (Option.some.inj h)
    obtain ⟨tx,htx⟩: ∃ tx,tx=t.take ml:=⟨_,rfl⟩
    rw [← htx] at hrs
    have hxl:tx.length=ml:=by rw [htx,List.length_take];omega
    obtain ⟨i0,hi0,_,hsz,_⟩:=info_parts info42
    have hcut: ∀ W:World,(Instr.slice 27 (.slice A7 t.length c7) none (some (.int .i64 mv)) none).run Try.prog W= .ok (.slice A7 ml c7) W:=by
     have h1:=cut_to (P:=Try.prog) 27 42 .i64 Try.underlying27 hi0 A7 t.length c7 mv (by omega) (by omega) m2_.out
     rwa [show mv.toNat=ml by omega] at h1
    have hmk:= @run_makeMap Try.prog
    have HPL:=Am hpl
    have HPR:=Am hpr
    have HRS:=Am hrs
    have HCX:=Am (show Kd.C k42 wB A7 ml tx by
     have:=Kd.C_take (m:=ml) (Kd.C_below m1_.out u4) (by omega)
     rwa [← htx,hxl] at this)
    have HCK:=Am (show ml≤c7 by have:=m2_.out;omega)
    have HXL:=Am hxl
    have HB4:=Am (below_step m3_.out u4)
    clear h hpl hpr hrs htx hxl m1_ m2_ m3_ u4 hmv hml hfr hhf hlf hrr hl0 hi0 hsz
    go_upto_region 10 with (fail)
    go_wp2_with (first|((with_reducible refine gate_callee (f:=20) rfl ?_);refine goesL_ (some 79) rfl rfl Try.func20 TK rfl #[.int .i64 lf] rfl (by (try simp only [List.map_toArray,List.map_cons,List.map_nil]);first|done|rfl) ?_;(with_reducible refine (place_pads.calls lf pl _ HPL.out).mono ?_);rintro e5 w5 ⟨v8,rfl,h8,hb5⟩;refine ⟨_,rfl,?_⟩;obtain ⟨A8,c8,rfl,k8,r8⟩:=Kd.R_reads h8;have p1_:=Am r8;have p2_:=Am k8;have p3_:=Am (Kd.C_below HCX.out hb5);have p4_:=Am (below_step HB4.out hb5);clear h8 hb5 r8 k8)|((with_reducible refine gate_callee (f:=20) rfl ?_);refine goesL_ (some 84) rfl rfl Try.func20 TK rfl #[.int .i64 rr] rfl (by (try simp only [List.map_toArray,List.map_cons,List.map_nil]);first|done|rfl) ?_;(with_reducible refine (place_pads.calls rr pr _ HPR.out).mono ?_);rintro e6 w6 ⟨v9,rfl,h9,hb6⟩;refine ⟨_,rfl,?_⟩;obtain ⟨A9,c9,rfl,k9,r9⟩:=Kd.R_reads h9;have q1_:=Am r9;have q2_:=Am k9;have q3_:=Am (Kd.C_below p3_.out hb6);have q4_:=Am (below_step p4_.out hb6);have q5_:=Am (Kd.C_below p1_.out hb6);clear h9 hb6 r9 k9)|((with_reducible refine gate_callee (f:=19) rfl ?_);refine goesL_ (some 86) rfl rfl Try.func19 TK rfl #[.slice (some ⟨w6.heap.size,0,none⟩) 3 3] rfl (by (try simp only [List.map_toArray,List.map_cons,List.map_nil]);first|done|rfl) ?_;(with_reducible refine (place_Slots.concat w6.heap.size pl tx pr rs _ ?side1 HRS.out).mono ?_);(case side1=>exact place_Slots.three _ w6.heap.size 27 A8 A7 A9 c8 c7 c9 pl tx pr (by rw [HXL.out];exact blk_new w6 _) p2_.out (by rw [HXL.out];exact HCK.out) q2_.out (Kd.C_alloc q5_.out _) (by rw [HXL.out];exact Kd.C_alloc q3_.out _) (Kd.C_alloc q1_.out _));rintro e7 w7 ⟨v10,rfl,h10,hb7⟩;refine ⟨_,rfl,?_⟩;have s1_:=Am (Kd.R_lower h10 (below_alloc q4_.out _).size);have s2_:=Am (below_step (below_alloc q4_.out _) hb7);clear h10 hb7))
    go_ret2
    exact ⟨_,rfl,s1_.out,s2_.out⟩
end
def q02_Same.l0:Nat→List Int→List Int→Int→Option (Bool)
 | 0,_,_,_=>none
 | k+1,x0,x1,x5=>if x5 < (x0.length:Int) then (if 0≤x5 then (if x5 < (x1.length:Int) then (if (rd x0 x5)=(rd x1 x5) then (q02_Same.l0 k x0 x1 (wrap64 (x5+1))) else (some false)) else (none)) else (none)) else (some true)
def q02_Same.f (k:Nat) (l0:List Int) (l1:List Int):Option (Bool):=if (l0.length:Int)=(l1.length:Int) then (q02_Same.l0 k l0 l1 0) else (some false)
theorem q02_Same.mono_l: ∀ k,(∀ y0 y1 y2,LeO (q02_Same.l0 k y0 y1 y2) (q02_Same.l0 (k+1) y0 y1 y2))
 | 0=>fun _ _ _ r h=>by simp [q02_Same.l0] at h
 | k+1=>by
  have ih0:=q02_Same.mono_l k
  ·
   intros
   unfold q02_Same.l0
   exact TL
theorem q02_Same.mono: ∀ a0 a1 k,LeO (q02_Same.f k a0 a1) (q02_Same.f (k+1) a0 a1):=by
 intro a0 a1 k
 have ih0:=q02_Same.mono_l k
 unfold q02_Same.f
 repeat' first
   | (with_reducible exact ih0 _ _ _)
   | (with_reducible exact LeO.refl _)
   | (with_reducible exact LeO.none _)
   | (with_reducible refine LeO.ite ?_ ?_)
   | (with_reducible refine LeO.bind ?_ (fun _=>?_))
set_option maxHeartbeats 8000000 in
theorem q02_Same.calls (k:Nat) (A0:Option Addr) (c0:Nat) (l0:List Int) (A1:Option Addr) (c1:Nat) (l1:List Int) (r:Bool) (w:World) (hr0:Kd.C (Kd.int .i64) w A0 l0.length l0) (hc0:l0.length≤c0) (hr1:Kd.C (Kd.int .i64) w A1 l1.length l1) (hc1:l1.length≤c1) (h:q02_Same.f k l0 l1=some r) :
  Calls Try.prog 12 #[.slice A0 l0.length c0,.slice A1 l1.length c1] w fun e w'=>e= .returned (.bool r)∧Drawn0 w w':=by
 have HR0:=Am hr0
 have HC0:=Am hc0
 clear hr0 hc0
 have HR1:=Am hr1
 have HC1:=Am hc1
 clear hr1 hc1
 have H:(if (l0.length:Int)=(l1.length:Int) then (q02_Same.l0 k l0 l1 0) else (some false))=some r:=h
 clear h
 by_cases c3:(l0.length:Int)=(l1.length:Int)
 rotate_left
 ·
  rw [if_neg c3] at H
  have c3b0:((l0.length:Int)==(l1.length:Int))=false:=beq_eq_false_iff_ne.mpr c3
  have c3b1:((l0.length:Int) !=(l1.length:Int))=true:=bne_iff_ne.mpr c3
  have c3b2:(l0.length==l1.length)=false:=by first|simpa using c3|(simp at c3 ⊢;omega)
  obtain rfl:=Option.some.inj H
  go_enter Try.func12,Try.ntmps12
  go_wp2
  repeat (go_quiet (fail);try go_wp2)
  go_ret
  exact ⟨by first|rfl|(simp;done)|(simp [*];done),by repeat (first|exact Drawn0.refl _|apply Drawn0.step)⟩
 rw [if_pos c3] at H
 have c3b0:((l0.length:Int)==(l1.length:Int))=true:=beq_iff_eq.mpr c3
 have c3b1:((l0.length:Int) !=(l1.length:Int))=false:=bne_eq_false_iff_eq.mpr c3
 have c3b2:(l0.length==l1.length)=true:=by first|simpa using c3|(simp at c3 ⊢;omega)
 clear c3
 have H':=Am H
 clear H
 go_enter Try.func12,Try.ntmps12
 go_wp2
 repeat (go_quiet (fail);try go_wp2)
 go_loopg [5] k (fun kq v5 w'=> ∃ (x5_1:Int),v5= .int .i64 x5_1∧Aside0 (q02_Same.l0 kq l0 l1 x5_1=some r)∧Aside0 (kq≤k)∧Drawn0 w w')
 case atStart=>exact ⟨(0),TS,H',⟨Nat.le_refl _⟩,by repeat (first|exact Drawn0.refl _|apply Drawn0.step)⟩
 case round =>
  clear H'
  obtain ⟨x5_1,rfl,HA,HK1,⟨m1,rfl⟩⟩:=hrel
  cases gk with
  | zero=>exact absurd HA.out (by simp [q02_Same.l0])
  | succ k1 =>
   have H:=HA.out
   clear HA
   simp only [q02_Same.l0] at H
   by_cases c4:x5_1 < (l0.length:Int)
   rotate_left
   ·
    rw [if_neg c4] at H
    have c4b0:decide (x5_1 < (l0.length:Int))=false:=decide_eq_false c4
    clear c4
    obtain rfl:=Option.some.inj H
    go_wp2
    repeat (go_quiet (fail);try go_wp2)
    go_ret
    exact ⟨by first|rfl|(simp;done)|(simp [*];done),by repeat (first|exact Drawn0.refl _|apply Drawn0.step)⟩
   rw [if_pos c4] at H
   have c4b0:decide (x5_1 < (l0.length:Int))=true:=decide_eq_true c4
   clear c4
   obtain ⟨c5,H⟩:=ifS H
   have c5b0:decide (0≤x5_1)=true:=decide_eq_true c5
   clear c5
   obtain ⟨c6,H⟩:=ifS H
   have c6b0:decide (x5_1 < (l1.length:Int))=true:=decide_eq_true c6
   clear c6
   by_cases c7:(rd l0 x5_1)=(rd l1 x5_1)
   rotate_left
   ·
    rw [if_neg c7] at H
    have c7b0:((rd l0 x5_1)==(rd l1 x5_1))=false:=beq_eq_false_iff_ne.mpr c7
    have c7b1:((rd l0 x5_1) !=(rd l1 x5_1))=true:=bne_iff_ne.mpr c7
    obtain rfl:=Option.some.inj H
    have p221:0≤(x5_1:Int):=tD
    have q221:x5_1 < (l0.length:Int):=tD
    obtain ⟨ad221,e221,hx221_0⟩:=Kd.at_int HR0.out x5_1 p221 q221
    cases e221
    replace p221:=eq_true p221
    replace q221:=eq_true q221
    have p222:0≤(x5_1:Int):=tD
    have q222:x5_1 < (l1.length:Int):=tD
    obtain ⟨ad222,e222,hx222_0⟩:=Kd.at_int HR1.out x5_1 p222 q222
    cases e222
    replace p222:=eq_true p222
    replace q222:=eq_true q222
    go_wp2
    repeat (go_quiet (fail);try go_wp2)
    go_ret
    exact ⟨by first|rfl|(simp;done)|(simp [*];done),by repeat (first|exact Drawn0.refl _|apply Drawn0.step)⟩
   rw [if_pos c7] at H
   have c7b0:((rd l0 x5_1)==(rd l1 x5_1))=true:=beq_iff_eq.mpr c7
   have c7b1:((rd l0 x5_1) !=(rd l1 x5_1))=false:=bne_eq_false_iff_eq.mpr c7
   clear c7
   have H':=Am H
   clear H
   have p221:0≤(x5_1:Int):=tD
   have q221:x5_1 < (l0.length:Int):=tD
   obtain ⟨ad221,e221,hx221_0⟩:=Kd.at_int HR0.out x5_1 p221 q221
   cases e221
   replace p221:=eq_true p221
   replace q221:=eq_true q221
   have p222:0≤(x5_1:Int):=tD
   have q222:x5_1 < (l1.length:Int):=tD
   obtain ⟨ad222,e222,hx222_0⟩:=Kd.at_int HR1.out x5_1 p222 q222
   cases e222
   replace p222:=eq_true p222
   replace q222:=eq_true q222
   go_wp2
   repeat (go_quiet (fail);try go_wp2)
   go_roundg k1
   case measure=>have:=HK1.out;omega
   case rel=>exact ⟨(wrap64 (x5_1+1)),TS,H',⟨by have:=HK1.out;omega⟩,by repeat (first|exact Drawn0.refl _|apply Drawn0.step)⟩
def y_codes.l0:Nat→List (S42)→List Int→Int→Option (List Int)
 | 0,_,_,_=>none
 | k+1,x0,x3,x4=>if x4 < (x0.length:Int) then (if 0≤x4 then (if ((rd_T42 x0 x4).f0)=3 then (if ((rd_T42 x0 x4).f0)=4 then (if x3.length < 17592186044416 then (y_codes.l0 k x0 (x3++[wrap64 (((rd_T42 x0 x4).f5)+(wrap64 (((rd_T42 x0 x4).f4) * 2097152)))]) (wrap64 (x4+1))) else (none)) else (if x3.length < 17592186044416 then (y_codes.l0 k x0 (x3++[(-3)]) (wrap64 (x4+1))) else (none))) else (if ((rd_T42 x0 x4).f0)=4 then (if x3.length < 17592186044416 then (y_codes.l0 k x0 (x3++[wrap64 (((rd_T42 x0 x4).f5)+(wrap64 (((rd_T42 x0 x4).f4) * 2097152)))]) (wrap64 (x4+1))) else (none)) else (if x3.length < 17592186044416 then (y_codes.l0 k x0 (x3++[wrap64 (-((rd_T42 x0 x4).f0))]) (wrap64 (x4+1))) else (none)))) else (none)) else (some x3)
def y_codes.f (k:Nat) (l0:List (S42)):Option (List Int):=y_codes.l0 k l0 ([]:List Int) 0
theorem y_codes.mono_l: ∀ k,(∀ y0 y1 y2,LeO (y_codes.l0 k y0 y1 y2) (y_codes.l0 (k+1) y0 y1 y2))
 | 0=>fun _ _ _ r h=>by simp [y_codes.l0] at h
 | k+1=>by
  have ih0:=y_codes.mono_l k
  ·
   intros
   unfold y_codes.l0
   exact TL
theorem y_codes.mono: ∀ a0 k,LeO (y_codes.f k a0) (y_codes.f (k+1) a0):=by
 intro a0 k
 have ih0:=y_codes.mono_l k
 unfold y_codes.f
 repeat' first
   | (with_reducible exact ih0 _ _ _)
   | (with_reducible exact LeO.refl _)
   | (with_reducible exact LeO.none _)
   | (with_reducible refine LeO.ite ?_ ?_)
   | (with_reducible refine LeO.bind ?_ (fun _=>?_))
set_option maxHeartbeats 8000000 in
theorem y_codes.calls (k:Nat) (A0:Option Addr) (c0:Nat) (l0:List (S42)) (r:List Int) (w:World) (hr0:Kd.C k42 w A0 l0.length l0) (hc0:l0.length≤c0) (h:y_codes.f k l0=some r) :
  Calls Try.prog 29 #[.slice A0 l0.length c0] w fun e w'=> ∃ v0_:Value,e= .returned (v0_)∧Kd.R (Kd.int .i64) 3 w' w.heap.size (fun _=>True) v0_ r∧Below w.heap.size w w':=by
 have HR0:=Am hr0
 have HC0:=Am hc0
 clear hr0 hc0
 have HB:=Am (Below.refl w.heap.size w)
 have H:(y_codes.l0 k l0 ([]:List Int) 0)=some r:=h
 clear h
 have H':=Am H
 clear H
 go_enter Try.func29,Try.ntmps29
 try dsimp only [List.append]
 go_wp2
 repeat (go_quiet (fail);try go_wp2)
 go_loopg [3,4] k (fun kq v3 v4 w'=> ∃ (x3_1:List Int) (x4_1:Int),v4= .int .i64 x4_1∧Aside0 (y_codes.l0 kq l0 x3_1 x4_1=some r)∧Aside0 (kq≤k)∧Aside0 (Kd.R (Kd.int .i64) 3 w' w.heap.size (fun _=>True) v3 x3_1)∧Aside0 (Below w.heap.size w w'))
 case atStart=>exact ⟨(([]:List Int)),(0),TS,H',⟨Nat.le_refl _⟩,⟨by first|exact Kd.R_nil _ _ _ _ _|exact Kd.N_nil _ _ _ _ _|exact Kd.V_nil _ _ _ _ _|exact Kd.Q_nil _ _ _ _ _|exact Kd.S_nil _ _ _ _ _⟩,⟨TB⟩⟩
 case round =>
  clear H'
  obtain ⟨x3_1,x4_1,rfl,HA,HK1,HO_3,HB⟩:=hrel
  cases gk with
  | zero=>exact absurd HA.out (by simp [y_codes.l0])
  | succ k1 =>
   have H:=HA.out
   clear HA
   simp only [y_codes.l0] at H
   by_cases c2:x4_1 < (l0.length:Int)
   rotate_left
   ·
    rw [if_neg c2] at H
    have c2b0:decide (x4_1 < (l0.length:Int))=false:=decide_eq_false c2
    clear c2
    obtain rfl:=Option.some.inj H
    go_wp2
    repeat (go_quiet (fail);try go_wp2)
    go_ret
    exact ⟨_,TE,RU HO_3.out,TB⟩
   rw [if_pos c2] at H
   have c2b0:decide (x4_1 < (l0.length:Int))=true:=decide_eq_true c2
   clear c2
   obtain ⟨c3,H⟩:=ifS H
   have c3b0:decide (0≤x4_1)=true:=decide_eq_true c3
   clear c3
   by_cases c4:((rd_T42 l0 x4_1).f0)=3
   ·
    rw [if_pos c4] at H
    have c4b0:(((rd_T42 l0 x4_1).f0)==3)=true:=beq_iff_eq.mpr c4
    have c4b1:(((rd_T42 l0 x4_1).f0) !=3)=false:=bne_eq_false_iff_eq.mpr c4
    clear c4
    by_cases c5:((rd_T42 l0 x4_1).f0)=4
    rotate_left
    ·
     rw [if_neg c5] at H
     have c5b0:(((rd_T42 l0 x4_1).f0)==4)=false:=beq_eq_false_iff_ne.mpr c5
     have c5b1:(((rd_T42 l0 x4_1).f0) !=4)=true:=bne_iff_ne.mpr c5
     obtain ⟨c8,H⟩:=ifS H
     have LMc8:=Am c8
     clear c8
     obtain ⟨y231,hy231⟩: ∃ y_:List Int,y_=(x3_1++[(-3)]):=⟨_,rfl⟩
     replace H:(y_codes.l0 k1 l0 y231 (wrap64 (x4_1+1)))=some r:=by first|(rw [hy231];with_reducible exact H)|(have H2_:=(Option.bind_some _ _).symm.trans H;rw [hy231];with_reducible exact H2_)|(have H2_:=(Option.bind_some _ _).symm.trans H;with_reducible exact H2_)|with_reducible exact H|(rw [hy231];exact H)|exact H
     have Ny231:=Am hy231
     clear hy231
     have H':=Am H
     clear H
     have p223:0≤(x4_1:Int):=tD
     have q223:x4_1 < (l0.length:Int):=tD
     obtain ⟨ad223,e223,hx223_0,hx223_1,hx223_2,hx223_3,hx223_4,hx223_5⟩:=at_T42 HR0.out x4_1 p223 q223
     cases e223
     replace hx223_0:=cellU HB.out hx223_0
     replace hx223_1:=cellU HB.out hx223_1
     replace hx223_2:=cellU HB.out hx223_2
     replace hx223_3:=cellU HB.out hx223_3
     replace hx223_4:=cellU HB.out hx223_4
     replace hx223_5:=cellU HB.out hx223_5
     replace p223:=eq_true p223
     replace q223:=eq_true q223
     have p224:0≤(x4_1:Int):=tD
     have q224:x4_1 < (l0.length:Int):=tD
     obtain ⟨ad224,e224,hx224_0,hx224_1,hx224_2,hx224_3,hx224_4,hx224_5⟩:=at_T42 HR0.out x4_1 p224 q224
     obtain rfl:ad223=ad224:=(by injection e224)
     replace hx224_0:=cellU HB.out hx224_0
     replace hx224_1:=cellU HB.out hx224_1
     replace hx224_2:=cellU HB.out hx224_2
     replace hx224_3:=cellU HB.out hx224_3
     replace hx224_4:=cellU HB.out hx224_4
     replace hx224_5:=cellU HB.out hx224_5
     replace p224:=eq_true p224
     replace q224:=eq_true q224
     have p225:0≤(x4_1:Int):=tD
     have q225:x4_1 < (l0.length:Int):=tD
     obtain ⟨ad225,e225,hx225_0,hx225_1,hx225_2,hx225_3,hx225_4,hx225_5⟩:=at_T42 HR0.out x4_1 p225 q225
     obtain rfl:ad223=ad225:=(by injection e225)
     replace hx225_0:=cellU HB.out hx225_0
     replace hx225_1:=cellU HB.out hx225_1
     replace hx225_2:=cellU HB.out hx225_2
     replace hx225_3:=cellU HB.out hx225_3
     replace hx225_4:=cellU HB.out hx225_4
     replace hx225_5:=cellU HB.out hx225_5
     replace p225:=eq_true p225
     replace q225:=eq_true q225
     go_wp2_with (first|((with_reducible refine gate_builtin (b:= .append) (xs:= #[.tmp 42,.tmp 44]) rfl ?_);at_builtin;refine Kd.R_append (Kd.int .i64) (w0:=w) w.heap.size rfl (.tmp 42) (.tmp 44) 23 3 (.int .i64 0) 8 rfl Try.underlying23 info3 rfl (by decide) (by omega) u3 x3_1 (-3) [.int .i64 (-3)] (fun _=>True) (fun _=>False) rfl rfl ?aP (fun _ hk=>hk.elim) ?aF ?aO ?aB ?aS ?aL ?_;(case aP=>exact rfl);(case aB=>exact TB);(case aF=>exact (fun _ _=>trivial));(case aO=>exact (RU HO_3.out));(case aS=>exact (below_size TB));(case aL=>have:=LMc8.out;omega);intro v232 w9 ho hb hg hat;rw [← Ny231.out] at ho;have HO233:=Am (ho);replace HB:=Am (hb);clear HO_3;clear ho hb hg hat))
     repeat (go_quiet (first|((with_reducible refine gate_builtin (b:= .append) (xs:= #[.tmp 42,.tmp 44]) rfl ?_);at_builtin;refine Kd.R_append (Kd.int .i64) (w0:=w) w.heap.size rfl (.tmp 42) (.tmp 44) 23 3 (.int .i64 0) 8 rfl Try.underlying23 info3 rfl (by decide) (by omega) u3 x3_1 (-3) [.int .i64 (-3)] (fun _=>True) (fun _=>False) rfl rfl ?aP (fun _ hk=>hk.elim) ?aF ?aO ?aB ?aS ?aL ?_;(case aP=>exact rfl);(case aB=>exact TB);(case aF=>exact (fun _ _=>trivial));(case aO=>exact (RU HO_3.out));(case aS=>exact (below_size TB));(case aL=>have:=LMc8.out;omega);intro v232 w9 ho hb hg hat;rw [← Ny231.out] at ho;have HO233:=Am (ho);replace HB:=Am (hb);clear HO_3;clear ho hb hg hat));try go_wp2_with (first|((with_reducible refine gate_builtin (b:= .append) (xs:= #[.tmp 42,.tmp 44]) rfl ?_);at_builtin;refine Kd.R_append (Kd.int .i64) (w0:=w) w.heap.size rfl (.tmp 42) (.tmp 44) 23 3 (.int .i64 0) 8 rfl Try.underlying23 info3 rfl (by decide) (by omega) u3 x3_1 (-3) [.int .i64 (-3)] (fun _=>True) (fun _=>False) rfl rfl ?aP (fun _ hk=>hk.elim) ?aF ?aO ?aB ?aS ?aL ?_;(case aP=>exact rfl);(case aB=>exact TB);(case aF=>exact (fun _ _=>trivial));(case aO=>exact (RU HO_3.out));(case aS=>exact (below_size TB));(case aL=>have:=LMc8.out;omega);intro v232 w9 ho hb hg hat;rw [← Ny231.out] at ho;have HO233:=Am (ho);replace HB:=Am (hb);clear HO_3;clear ho hb hg hat)))
     go_roundg k1
     case measure=>have:=HK1.out;omega
     case rel=>exact ⟨(y231),(wrap64 (x4_1+1)),TS,H',⟨by have:=HK1.out;omega⟩,⟨RU HO233.out⟩,⟨TB⟩⟩
    rw [if_pos c5] at H
    have c5b0:(((rd_T42 l0 x4_1).f0)==4)=true:=beq_iff_eq.mpr c5
    have c5b1:(((rd_T42 l0 x4_1).f0) !=4)=false:=bne_eq_false_iff_eq.mpr c5
    clear c5
    obtain ⟨c6,H⟩:=ifS H
    have LMc6:=Am c6
    clear c6
    obtain ⟨y228,hy228⟩: ∃ y_:List Int,y_=(x3_1++[wrap64 (((rd_T42 l0 x4_1).f5)+(wrap64 (((rd_T42 l0 x4_1).f4) * 2097152)))]):=⟨_,rfl⟩
    replace H:(y_codes.l0 k1 l0 y228 (wrap64 (x4_1+1)))=some r:=by first|(rw [hy228];with_reducible exact H)|(have H2_:=(Option.bind_some _ _).symm.trans H;rw [hy228];with_reducible exact H2_)|(have H2_:=(Option.bind_some _ _).symm.trans H;with_reducible exact H2_)|with_reducible exact H|(rw [hy228];exact H)|exact H
    have Ny228:=Am hy228
    clear hy228
    have H':=Am H
    clear H
    have p223:0≤(x4_1:Int):=tD
    have q223:x4_1 < (l0.length:Int):=tD
    obtain ⟨ad223,e223,hx223_0,hx223_1,hx223_2,hx223_3,hx223_4,hx223_5⟩:=at_T42 HR0.out x4_1 p223 q223
    cases e223
    replace hx223_0:=cellU HB.out hx223_0
    replace hx223_1:=cellU HB.out hx223_1
    replace hx223_2:=cellU HB.out hx223_2
    replace hx223_3:=cellU HB.out hx223_3
    replace hx223_4:=cellU HB.out hx223_4
    replace hx223_5:=cellU HB.out hx223_5
    replace p223:=eq_true p223
    replace q223:=eq_true q223
    have p224:0≤(x4_1:Int):=tD
    have q224:x4_1 < (l0.length:Int):=tD
    obtain ⟨ad224,e224,hx224_0,hx224_1,hx224_2,hx224_3,hx224_4,hx224_5⟩:=at_T42 HR0.out x4_1 p224 q224
    obtain rfl:ad223=ad224:=(by injection e224)
    replace hx224_0:=cellU HB.out hx224_0
    replace hx224_1:=cellU HB.out hx224_1
    replace hx224_2:=cellU HB.out hx224_2
    replace hx224_3:=cellU HB.out hx224_3
    replace hx224_4:=cellU HB.out hx224_4
    replace hx224_5:=cellU HB.out hx224_5
    replace p224:=eq_true p224
    replace q224:=eq_true q224
    have p225:0≤(x4_1:Int):=tD
    have q225:x4_1 < (l0.length:Int):=tD
    obtain ⟨ad225,e225,hx225_0,hx225_1,hx225_2,hx225_3,hx225_4,hx225_5⟩:=at_T42 HR0.out x4_1 p225 q225
    obtain rfl:ad223=ad225:=(by injection e225)
    replace hx225_0:=cellU HB.out hx225_0
    replace hx225_1:=cellU HB.out hx225_1
    replace hx225_2:=cellU HB.out hx225_2
    replace hx225_3:=cellU HB.out hx225_3
    replace hx225_4:=cellU HB.out hx225_4
    replace hx225_5:=cellU HB.out hx225_5
    replace p225:=eq_true p225
    replace q225:=eq_true q225
    have p226:0≤(x4_1:Int):=tD
    have q226:x4_1 < (l0.length:Int):=tD
    obtain ⟨ad226,e226,hx226_0,hx226_1,hx226_2,hx226_3,hx226_4,hx226_5⟩:=at_T42 HR0.out x4_1 p226 q226
    obtain rfl:ad223=ad226:=(by injection e226)
    replace hx226_0:=cellU HB.out hx226_0
    replace hx226_1:=cellU HB.out hx226_1
    replace hx226_2:=cellU HB.out hx226_2
    replace hx226_3:=cellU HB.out hx226_3
    replace hx226_4:=cellU HB.out hx226_4
    replace hx226_5:=cellU HB.out hx226_5
    replace p226:=eq_true p226
    replace q226:=eq_true q226
    have p227:0≤(x4_1:Int):=tD
    have q227:x4_1 < (l0.length:Int):=tD
    obtain ⟨ad227,e227,hx227_0,hx227_1,hx227_2,hx227_3,hx227_4,hx227_5⟩:=at_T42 HR0.out x4_1 p227 q227
    obtain rfl:ad223=ad227:=(by injection e227)
    replace hx227_0:=cellU HB.out hx227_0
    replace hx227_1:=cellU HB.out hx227_1
    replace hx227_2:=cellU HB.out hx227_2
    replace hx227_3:=cellU HB.out hx227_3
    replace hx227_4:=cellU HB.out hx227_4
    replace hx227_5:=cellU HB.out hx227_5
    replace p227:=eq_true p227
    replace q227:=eq_true q227
    go_wp2_with (first|((with_reducible refine gate_builtin (b:= .append) (xs:= #[.tmp 42,.tmp 44]) rfl ?_);at_builtin;refine Kd.R_append (Kd.int .i64) (w0:=w) w.heap.size rfl (.tmp 42) (.tmp 44) 23 3 (.int .i64 0) 8 rfl Try.underlying23 info3 rfl (by decide) (by omega) u3 x3_1 (wrap64 (((rd_T42 l0 x4_1).f5)+(wrap64 (((rd_T42 l0 x4_1).f4) * 2097152)))) [.int .i64 (wrap64 (((rd_T42 l0 x4_1).f5)+(wrap64 (((rd_T42 l0 x4_1).f4) * 2097152))))] (fun _=>True) (fun _=>False) rfl rfl ?aP (fun _ hk=>hk.elim) ?aF ?aO ?aB ?aS ?aL ?_;(case aP=>exact rfl);(case aB=>exact TB);(case aF=>exact (fun _ _=>trivial));(case aO=>exact (RU HO_3.out));(case aS=>exact (below_size TB));(case aL=>have:=LMc6.out;omega);intro v229 w7 ho hb hg hat;rw [← Ny228.out] at ho;have HO230:=Am (ho);replace HB:=Am (hb);clear HO_3;clear ho hb hg hat))
    repeat (go_quiet (first|((with_reducible refine gate_builtin (b:= .append) (xs:= #[.tmp 42,.tmp 44]) rfl ?_);at_builtin;refine Kd.R_append (Kd.int .i64) (w0:=w) w.heap.size rfl (.tmp 42) (.tmp 44) 23 3 (.int .i64 0) 8 rfl Try.underlying23 info3 rfl (by decide) (by omega) u3 x3_1 (wrap64 (((rd_T42 l0 x4_1).f5)+(wrap64 (((rd_T42 l0 x4_1).f4) * 2097152)))) [.int .i64 (wrap64 (((rd_T42 l0 x4_1).f5)+(wrap64 (((rd_T42 l0 x4_1).f4) * 2097152))))] (fun _=>True) (fun _=>False) rfl rfl ?aP (fun _ hk=>hk.elim) ?aF ?aO ?aB ?aS ?aL ?_;(case aP=>exact rfl);(case aB=>exact TB);(case aF=>exact (fun _ _=>trivial));(case aO=>exact (RU HO_3.out));(case aS=>exact (below_size TB));(case aL=>have:=LMc6.out;omega);intro v229 w7 ho hb hg hat;rw [← Ny228.out] at ho;have HO230:=Am (ho);replace HB:=Am (hb);clear HO_3;clear ho hb hg hat));try go_wp2_with (first|((with_reducible refine gate_builtin (b:= .append) (xs:= #[.tmp 42,.tmp 44]) rfl ?_);at_builtin;refine Kd.R_append (Kd.int .i64) (w0:=w) w.heap.size rfl (.tmp 42) (.tmp 44) 23 3 (.int .i64 0) 8 rfl Try.underlying23 info3 rfl (by decide) (by omega) u3 x3_1 (wrap64 (((rd_T42 l0 x4_1).f5)+(wrap64 (((rd_T42 l0 x4_1).f4) * 2097152)))) [.int .i64 (wrap64 (((rd_T42 l0 x4_1).f5)+(wrap64 (((rd_T42 l0 x4_1).f4) * 2097152))))] (fun _=>True) (fun _=>False) rfl rfl ?aP (fun _ hk=>hk.elim) ?aF ?aO ?aB ?aS ?aL ?_;(case aP=>exact rfl);(case aB=>exact TB);(case aF=>exact (fun _ _=>trivial));(case aO=>exact (RU HO_3.out));(case aS=>exact (below_size TB));(case aL=>have:=LMc6.out;omega);intro v229 w7 ho hb hg hat;rw [← Ny228.out] at ho;have HO230:=Am (ho);replace HB:=Am (hb);clear HO_3;clear ho hb hg hat)))
    go_roundg k1
    case measure=>have:=HK1.out;omega
    case rel=>exact ⟨(y228),(wrap64 (x4_1+1)),TS,H',⟨by have:=HK1.out;omega⟩,⟨RU HO230.out⟩,⟨TB⟩⟩
   rw [if_neg c4] at H
   have c4b0:(((rd_T42 l0 x4_1).f0)==3)=false:=beq_eq_false_iff_ne.mpr c4
   have c4b1:(((rd_T42 l0 x4_1).f0) !=3)=true:=bne_iff_ne.mpr c4
   by_cases c10:((rd_T42 l0 x4_1).f0)=4
   rotate_left
   ·
    rw [if_neg c10] at H
    have c10b0:(((rd_T42 l0 x4_1).f0)==4)=false:=beq_eq_false_iff_ne.mpr c10
    have c10b1:(((rd_T42 l0 x4_1).f0) !=4)=true:=bne_iff_ne.mpr c10
    obtain ⟨c13,H⟩:=ifS H
    have LMc13:=Am c13
    clear c13
    obtain ⟨y240,hy240⟩: ∃ y_:List Int,y_=(x3_1++[wrap64 (-((rd_T42 l0 x4_1).f0))]):=⟨_,rfl⟩
    replace H:(y_codes.l0 k1 l0 y240 (wrap64 (x4_1+1)))=some r:=by first|(rw [hy240];with_reducible exact H)|(have H2_:=(Option.bind_some _ _).symm.trans H;rw [hy240];with_reducible exact H2_)|(have H2_:=(Option.bind_some _ _).symm.trans H;with_reducible exact H2_)|with_reducible exact H|(rw [hy240];exact H)|exact H
    have Ny240:=Am hy240
    clear hy240
    have H':=Am H
    clear H
    have p223:0≤(x4_1:Int):=tD
    have q223:x4_1 < (l0.length:Int):=tD
    obtain ⟨ad223,e223,hx223_0,hx223_1,hx223_2,hx223_3,hx223_4,hx223_5⟩:=at_T42 HR0.out x4_1 p223 q223
    cases e223
    replace hx223_0:=cellU HB.out hx223_0
    replace hx223_1:=cellU HB.out hx223_1
    replace hx223_2:=cellU HB.out hx223_2
    replace hx223_3:=cellU HB.out hx223_3
    replace hx223_4:=cellU HB.out hx223_4
    replace hx223_5:=cellU HB.out hx223_5
    replace p223:=eq_true p223
    replace q223:=eq_true q223
    have p224:0≤(x4_1:Int):=tD
    have q224:x4_1 < (l0.length:Int):=tD
    obtain ⟨ad224,e224,hx224_0,hx224_1,hx224_2,hx224_3,hx224_4,hx224_5⟩:=at_T42 HR0.out x4_1 p224 q224
    obtain rfl:ad223=ad224:=(by injection e224)
    replace hx224_0:=cellU HB.out hx224_0
    replace hx224_1:=cellU HB.out hx224_1
    replace hx224_2:=cellU HB.out hx224_2
    replace hx224_3:=cellU HB.out hx224_3
    replace hx224_4:=cellU HB.out hx224_4
    replace hx224_5:=cellU HB.out hx224_5
    replace p224:=eq_true p224
    replace q224:=eq_true q224
    have p234:0≤(x4_1:Int):=tD
    have q234:x4_1 < (l0.length:Int):=tD
    obtain ⟨ad234,e234,hx234_0,hx234_1,hx234_2,hx234_3,hx234_4,hx234_5⟩:=at_T42 HR0.out x4_1 p234 q234
    obtain rfl:ad223=ad234:=(by injection e234)
    replace hx234_0:=cellU HB.out hx234_0
    replace hx234_1:=cellU HB.out hx234_1
    replace hx234_2:=cellU HB.out hx234_2
    replace hx234_3:=cellU HB.out hx234_3
    replace hx234_4:=cellU HB.out hx234_4
    replace hx234_5:=cellU HB.out hx234_5
    replace p234:=eq_true p234
    replace q234:=eq_true q234
    go_wp2_with (first|((with_reducible refine gate_builtin (b:= .append) (xs:= #[.tmp 42,.tmp 44]) rfl ?_);at_builtin;refine Kd.R_append (Kd.int .i64) (w0:=w) w.heap.size rfl (.tmp 42) (.tmp 44) 23 3 (.int .i64 0) 8 rfl Try.underlying23 info3 rfl (by decide) (by omega) u3 x3_1 (wrap64 (-((rd_T42 l0 x4_1).f0))) [.int .i64 (wrap64 (-((rd_T42 l0 x4_1).f0)))] (fun _=>True) (fun _=>False) rfl rfl ?aP (fun _ hk=>hk.elim) ?aF ?aO ?aB ?aS ?aL ?_;(case aP=>exact rfl);(case aB=>exact TB);(case aF=>exact (fun _ _=>trivial));(case aO=>exact (RU HO_3.out));(case aS=>exact (below_size TB));(case aL=>have:=LMc13.out;omega);intro v241 w14 ho hb hg hat;rw [← Ny240.out] at ho;have HO242:=Am (ho);replace HB:=Am (hb);clear HO_3;clear ho hb hg hat))
    repeat (go_quiet (first|((with_reducible refine gate_builtin (b:= .append) (xs:= #[.tmp 42,.tmp 44]) rfl ?_);at_builtin;refine Kd.R_append (Kd.int .i64) (w0:=w) w.heap.size rfl (.tmp 42) (.tmp 44) 23 3 (.int .i64 0) 8 rfl Try.underlying23 info3 rfl (by decide) (by omega) u3 x3_1 (wrap64 (-((rd_T42 l0 x4_1).f0))) [.int .i64 (wrap64 (-((rd_T42 l0 x4_1).f0)))] (fun _=>True) (fun _=>False) rfl rfl ?aP (fun _ hk=>hk.elim) ?aF ?aO ?aB ?aS ?aL ?_;(case aP=>exact rfl);(case aB=>exact TB);(case aF=>exact (fun _ _=>trivial));(case aO=>exact (RU HO_3.out));(case aS=>exact (below_size TB));(case aL=>have:=LMc13.out;omega);intro v241 w14 ho hb hg hat;rw [← Ny240.out] at ho;have HO242:=Am (ho);replace HB:=Am (hb);clear HO_3;clear ho hb hg hat));try go_wp2_with (first|((with_reducible refine gate_builtin (b:= .append) (xs:= #[.tmp 42,.tmp 44]) rfl ?_);at_builtin;refine Kd.R_append (Kd.int .i64) (w0:=w) w.heap.size rfl (.tmp 42) (.tmp 44) 23 3 (.int .i64 0) 8 rfl Try.underlying23 info3 rfl (by decide) (by omega) u3 x3_1 (wrap64 (-((rd_T42 l0 x4_1).f0))) [.int .i64 (wrap64 (-((rd_T42 l0 x4_1).f0)))] (fun _=>True) (fun _=>False) rfl rfl ?aP (fun _ hk=>hk.elim) ?aF ?aO ?aB ?aS ?aL ?_;(case aP=>exact rfl);(case aB=>exact TB);(case aF=>exact (fun _ _=>trivial));(case aO=>exact (RU HO_3.out));(case aS=>exact (below_size TB));(case aL=>have:=LMc13.out;omega);intro v241 w14 ho hb hg hat;rw [← Ny240.out] at ho;have HO242:=Am (ho);replace HB:=Am (hb);clear HO_3;clear ho hb hg hat)))
    go_roundg k1
    case measure=>have:=HK1.out;omega
    case rel=>exact ⟨(y240),(wrap64 (x4_1+1)),TS,H',⟨by have:=HK1.out;omega⟩,⟨RU HO242.out⟩,⟨TB⟩⟩
   rw [if_pos c10] at H
   have c10b0:(((rd_T42 l0 x4_1).f0)==4)=true:=beq_iff_eq.mpr c10
   have c10b1:(((rd_T42 l0 x4_1).f0) !=4)=false:=bne_eq_false_iff_eq.mpr c10
   clear c10
   obtain ⟨c11,H⟩:=ifS H
   have LMc11:=Am c11
   clear c11
   obtain ⟨y237,hy237⟩: ∃ y_:List Int,y_=(x3_1++[wrap64 (((rd_T42 l0 x4_1).f5)+(wrap64 (((rd_T42 l0 x4_1).f4) * 2097152)))]):=⟨_,rfl⟩
   replace H:(y_codes.l0 k1 l0 y237 (wrap64 (x4_1+1)))=some r:=by first|(rw [hy237];with_reducible exact H)|(have H2_:=(Option.bind_some _ _).symm.trans H;rw [hy237];with_reducible exact H2_)|(have H2_:=(Option.bind_some _ _).symm.trans H;with_reducible exact H2_)|with_reducible exact H|(rw [hy237];exact H)|exact H
   have Ny237:=Am hy237
   clear hy237
   have H':=Am H
   clear H
   have p223:0≤(x4_1:Int):=tD
   have q223:x4_1 < (l0.length:Int):=tD
   obtain ⟨ad223,e223,hx223_0,hx223_1,hx223_2,hx223_3,hx223_4,hx223_5⟩:=at_T42 HR0.out x4_1 p223 q223
   cases e223
   replace hx223_0:=cellU HB.out hx223_0
   replace hx223_1:=cellU HB.out hx223_1
   replace hx223_2:=cellU HB.out hx223_2
   replace hx223_3:=cellU HB.out hx223_3
   replace hx223_4:=cellU HB.out hx223_4
   replace hx223_5:=cellU HB.out hx223_5
   replace p223:=eq_true p223
   replace q223:=eq_true q223
   have p224:0≤(x4_1:Int):=tD
   have q224:x4_1 < (l0.length:Int):=tD
   obtain ⟨ad224,e224,hx224_0,hx224_1,hx224_2,hx224_3,hx224_4,hx224_5⟩:=at_T42 HR0.out x4_1 p224 q224
   obtain rfl:ad223=ad224:=(by injection e224)
   replace hx224_0:=cellU HB.out hx224_0
   replace hx224_1:=cellU HB.out hx224_1
   replace hx224_2:=cellU HB.out hx224_2
   replace hx224_3:=cellU HB.out hx224_3
   replace hx224_4:=cellU HB.out hx224_4
   replace hx224_5:=cellU HB.out hx224_5
   replace p224:=eq_true p224
   replace q224:=eq_true q224
   have p234:0≤(x4_1:Int):=tD
   have q234:x4_1 < (l0.length:Int):=tD
   obtain ⟨ad234,e234,hx234_0,hx234_1,hx234_2,hx234_3,hx234_4,hx234_5⟩:=at_T42 HR0.out x4_1 p234 q234
   obtain rfl:ad223=ad234:=(by injection e234)
   replace hx234_0:=cellU HB.out hx234_0
   replace hx234_1:=cellU HB.out hx234_1
   replace hx234_2:=cellU HB.out hx234_2
   replace hx234_3:=cellU HB.out hx234_3
   replace hx234_4:=cellU HB.out hx234_4
   replace hx234_5:=cellU HB.out hx234_5
   replace p234:=eq_true p234
   replace q234:=eq_true q234
   have p235:0≤(x4_1:Int):=tD
   have q235:x4_1 < (l0.length:Int):=tD
   obtain ⟨ad235,e235,hx235_0,hx235_1,hx235_2,hx235_3,hx235_4,hx235_5⟩:=at_T42 HR0.out x4_1 p235 q235
   obtain rfl:ad223=ad235:=(by injection e235)
   replace hx235_0:=cellU HB.out hx235_0
   replace hx235_1:=cellU HB.out hx235_1
   replace hx235_2:=cellU HB.out hx235_2
   replace hx235_3:=cellU HB.out hx235_3
   replace hx235_4:=cellU HB.out hx235_4
   replace hx235_5:=cellU HB.out hx235_5
   replace p235:=eq_true p235
   replace q235:=eq_true q235
   have p236:0≤(x4_1:Int):=tD
   have q236:x4_1 < (l0.length:Int):=tD
   obtain ⟨ad236,e236,hx236_0,hx236_1,hx236_2,hx236_3,hx236_4,hx236_5⟩:=at_T42 HR0.out x4_1 p236 q236
   obtain rfl:ad223=ad236:=(by injection e236)
   replace hx236_0:=cellU HB.out hx236_0
   replace hx236_1:=cellU HB.out hx236_1
   replace hx236_2:=cellU HB.out hx236_2
   replace hx236_3:=cellU HB.out hx236_3
   replace hx236_4:=cellU HB.out hx236_4
   replace hx236_5:=cellU HB.out hx236_5
   replace p236:=eq_true p236
   replace q236:=eq_true q236
   go_wp2_with (first|((with_reducible refine gate_builtin (b:= .append) (xs:= #[.tmp 42,.tmp 44]) rfl ?_);at_builtin;refine Kd.R_append (Kd.int .i64) (w0:=w) w.heap.size rfl (.tmp 42) (.tmp 44) 23 3 (.int .i64 0) 8 rfl Try.underlying23 info3 rfl (by decide) (by omega) u3 x3_1 (wrap64 (((rd_T42 l0 x4_1).f5)+(wrap64 (((rd_T42 l0 x4_1).f4) * 2097152)))) [.int .i64 (wrap64 (((rd_T42 l0 x4_1).f5)+(wrap64 (((rd_T42 l0 x4_1).f4) * 2097152))))] (fun _=>True) (fun _=>False) rfl rfl ?aP (fun _ hk=>hk.elim) ?aF ?aO ?aB ?aS ?aL ?_;(case aP=>exact rfl);(case aB=>exact TB);(case aF=>exact (fun _ _=>trivial));(case aO=>exact (RU HO_3.out));(case aS=>exact (below_size TB));(case aL=>have:=LMc11.out;omega);intro v238 w12 ho hb hg hat;rw [← Ny237.out] at ho;have HO239:=Am (ho);replace HB:=Am (hb);clear HO_3;clear ho hb hg hat))
   repeat (go_quiet (first|((with_reducible refine gate_builtin (b:= .append) (xs:= #[.tmp 42,.tmp 44]) rfl ?_);at_builtin;refine Kd.R_append (Kd.int .i64) (w0:=w) w.heap.size rfl (.tmp 42) (.tmp 44) 23 3 (.int .i64 0) 8 rfl Try.underlying23 info3 rfl (by decide) (by omega) u3 x3_1 (wrap64 (((rd_T42 l0 x4_1).f5)+(wrap64 (((rd_T42 l0 x4_1).f4) * 2097152)))) [.int .i64 (wrap64 (((rd_T42 l0 x4_1).f5)+(wrap64 (((rd_T42 l0 x4_1).f4) * 2097152))))] (fun _=>True) (fun _=>False) rfl rfl ?aP (fun _ hk=>hk.elim) ?aF ?aO ?aB ?aS ?aL ?_;(case aP=>exact rfl);(case aB=>exact TB);(case aF=>exact (fun _ _=>trivial));(case aO=>exact (RU HO_3.out));(case aS=>exact (below_size TB));(case aL=>have:=LMc11.out;omega);intro v238 w12 ho hb hg hat;rw [← Ny237.out] at ho;have HO239:=Am (ho);replace HB:=Am (hb);clear HO_3;clear ho hb hg hat));try go_wp2_with (first|((with_reducible refine gate_builtin (b:= .append) (xs:= #[.tmp 42,.tmp 44]) rfl ?_);at_builtin;refine Kd.R_append (Kd.int .i64) (w0:=w) w.heap.size rfl (.tmp 42) (.tmp 44) 23 3 (.int .i64 0) 8 rfl Try.underlying23 info3 rfl (by decide) (by omega) u3 x3_1 (wrap64 (((rd_T42 l0 x4_1).f5)+(wrap64 (((rd_T42 l0 x4_1).f4) * 2097152)))) [.int .i64 (wrap64 (((rd_T42 l0 x4_1).f5)+(wrap64 (((rd_T42 l0 x4_1).f4) * 2097152))))] (fun _=>True) (fun _=>False) rfl rfl ?aP (fun _ hk=>hk.elim) ?aF ?aO ?aB ?aS ?aL ?_;(case aP=>exact rfl);(case aB=>exact TB);(case aF=>exact (fun _ _=>trivial));(case aO=>exact (RU HO_3.out));(case aS=>exact (below_size TB));(case aL=>have:=LMc11.out;omega);intro v238 w12 ho hb hg hat;rw [← Ny237.out] at ho;have HO239:=Am (ho);replace HB:=Am (hb);clear HO_3;clear ho hb hg hat)))
   go_roundg k1
   case measure=>have:=HK1.out;omega
   case rel=>exact ⟨(y237),(wrap64 (x4_1+1)),TS,H',⟨by have:=HK1.out;omega⟩,⟨RU HO239.out⟩,⟨TB⟩⟩
end Go.Proofs.Yteoaegigjlhamaa.PC19
