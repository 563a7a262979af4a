/- For the laws of the group C19: the Lean functions that the Go functions compute, and proofs that they do. Written by wip/hprint.py of this repo over the kit's printer; nothing here is trusted: Lean checks it. -/
import Derived.Test.YteoaegigjlhamaaPC19x0
import Derived.Test.YteoaegigjlhamaaPC19x9
import Derived.Test.YteoaegigjlhamaaPC19x14
namespace Go.Proofs.Yteoaegigjlhamaa.PC19
open Go.RowKit Go.Proofs.YteoaegigjlhamaaW.PrintWords Go.Proofs.YteoaegigjlhamaaW.PrintLast Go.Proofs.YteoaegigjlhamaaW.PrintMore
attribute [local go_sem] max2_int min2_int max_two min_two max_three min_three max_four min_four
set_option linter.unusedVariables false
set_option linter.unusedSimpArgs false
/-! ### api_Slot_19:function 19:by hand -/
def api_Slot_19.f (l0:List (List S42)):Option (List S42):=if l0.length=3∧l0.flatten.length < 1000000 then some l0.flatten else none
section
open Go.Proofs.YteoaegigjlhamaaH
theorem api_Slot_19.info78:(Try.prog.info? 27).map (fun i=>(i.zero,i.size))=some (some (.slice none 0 0),1):=by kernel_rfl
theorem api_Slot_19.step (l:List (List S42)) (i:Nat) (hi:i < l.length):(l.take (i+1)).flatten=(l.take i).flatten++rd_L8 l (i:Int):=by
 rw [List.take_add_one,List.flatten_append,List.getElem?_eq_getElem hi]
 unfold rd_L8
 simp [List.getD_eq_getElem?_getD,List.getElem?_eq_getElem hi]
theorem api_Slot_19.le (l:List (List S42)) (i:Nat):(l.take i).flatten.length≤l.flatten.length:=by
 have e:l.flatten=(l.take i).flatten++(l.drop i).flatten:=by rw [← List.flatten_append,List.take_append_drop]
 rw [e,List.length_append]
 omega
set_option maxHeartbeats 2000000 in
set_option maxRecDepth 100000 in
theorem api_Slot_19.calls (A0:Option Addr) (c0:Nat) (l0:List (List S42)) (r:List S42) (w:World) (hr0:Kd.C (Kd.slice 42 k42) w A0 l0.length l0) (hc0:l0.length≤c0) (h:api_Slot_19.f l0=some r) :
  Calls Try.prog 19 #[.slice A0 l0.length c0] w fun e w'=> ∃ v0_:Value,e= .returned v0_∧Kd.R k42 42 w' w.heap.size (fun _=>True) v0_ r∧Below w.heap.size w w':=by
 unfold api_Slot_19.f at h
 split at h
 rotate_left
 ·
  cases h
 rename_i hl
 obtain rfl:=Option.some.inj h
 obtain ⟨hl3,hlt⟩:=hl
 clear h
 have HR:=Aside0.mk hr0
 have HL3:=Aside0.mk hl3
 have HLT:=Aside0.mk hlt
 have HB:=Aside0.mk (Below.refl w.heap.size w)
 clear hr0 hc0 hl3 hlt
 go_enter Try.func19,Try.ntmps19
 go_wp2
 go_loopg [3,11] (l0.length) (fun kx s3 s11 wr=> ∃ (i:Nat) (ii sz:Int),s3= .int .i64 sz∧s11= .int .i64 ii∧Aside0 (ii=(i:Int))∧Aside0 (i≤l0.length)∧kx=l0.length - i∧Aside0 (sz=((l0.take i).flatten.length:Int))∧Aside0 (Below w.heap.size w wr))
 case atStart=>exact ⟨0,0,0,rfl,rfl,⟨rfl⟩,⟨Nat.zero_le _⟩,rfl,⟨by simp⟩,HB⟩
 case round =>
  clear HB
  obtain ⟨i,ii,sz,rfl,rfl,hii,hil,rfl,hsz,hb⟩:=hrel
  have hi0:(0:Int)≤ii:=by rw [hii.out];omega
  have hib:ii < 1000000:=by rw [hii.out];have:=hil.out;have:=HL3.out;omega
  by_cases hi:i < l0.length
  ·
   have hi':ii < (l0.length:Int):=by rw [hii.out];omega
   obtain ⟨ad,A1,c1,rfl,hcell,hlc,hC⟩:=at_L8 (Kd.C_below HR.out hb.out) ii hi0 hi'
   obtain ⟨y,hy⟩: ∃ y,y=rd_L8 l0 ii:=⟨_,rfl⟩
   rw [← hy] at hcell
   have hs:=api_Slot_19.step l0 i hi
   rw [← hii.out,← hy] at hs
   have hle:=api_Slot_19.le l0 (i+1)
   obtain ⟨z,hz⟩: ∃ z:Int,z=sz+(y.length:Int):=⟨_,rfl⟩
   have hzl:=Aside0.mk (show z=((l0.take (i+1)).flatten.length:Int) by rw [hz,hsz.out,hs,List.length_append];omega)
   have hw:IntKind.i64.wrap (sz+(y.length:Int))=z:=by
    rw [← hz,hzl.out,IntKind.wrap_i64]
    have:=HLT.out
    omega
   have hw2:wrap64 (sz+(y.length:Int))=z:=by
    unfold wrap64
    rw [← hz,hzl.out]
    have:=HLT.out
    omega
   have hz0: ¬ z < 0:=by rw [hzl.out];omega
   have hn1:=Aside0.mk (show ii+1=((i+1:Nat):Int) by rw [hii.out];omega)
   have Hi:=Aside0.mk hi
   clear hs hle hi hz hC hlc hy
   go_wp2
   go_roundg (l0.length - (i+1))
   case measure=>have:=Hi.out;omega
   case rel=>exact ⟨i+1,ii+1,z,rfl,rfl,hn1,⟨Hi.out⟩,rfl,hzl,hb⟩
  ·
   have hi': ¬ ii < (l0.length:Int):=by rw [hii.out];omega
   have hs:=hsz.out
   rw [show i=l0.length by have:=hil.out;omega,List.take_length] at hs
   have hg:api_Slot_36.f sz=some []:=by
    unfold api_Slot_36.f
    rw [if_pos ⟨by rw [hs];omega,by rw [hs];have:=HLT.out;omega⟩]
   have HG:=Aside0.mk hg
   clear hsz hs hg hi hil
   go_wp2_with (first|((with_reducible refine gate_callee (f:=36) rfl ?_);refine goesL_ (some 24) rfl rfl Try.func36 (by kernel_rfl) rfl #[.slice none 0 0,.int .i64 sz] rfl (by (try simp only [List.map_toArray,List.map_cons,List.map_nil]);first|done|rfl) ?_;(with_reducible refine (api_Slot_36.calls sz [] _ HG.out).mono ?_);rintro e w' ⟨v6,rfl,ho6,hb6⟩;refine ⟨_,rfl,?_⟩;have n0_:=Aside0.mk (Kd.R_lower ho6 hb.out.size);have n1_:=Aside0.mk (below_step hb.out hb6);clear ho6 hb6))
   clear hb
   go_loopg [6,27] (l0.length) (fun kx s6 s27 wr=> ∃ (i:Nat) (ii:Int),s27= .int .i64 ii∧Aside0 (ii=(i:Int))∧Aside0 (i≤l0.length)∧kx=l0.length - i∧Aside0 (Kd.R k42 42 wr w.heap.size (fun _=>True) s6 (l0.take i).flatten)∧Aside0 (Below w.heap.size w wr))
   case atStart=>exact ⟨0,0,rfl,⟨rfl⟩,⟨Nat.zero_le _⟩,rfl,n0_,n1_⟩
   case round =>
    clear n0_ n1_
    obtain ⟨j,jj,rfl,hjj,hjl,rfl,HO,hb⟩:=hrel
    have hj0:(0:Int)≤jj:=by rw [hjj.out];omega
    have hjb:jj < 1000000:=by rw [hjj.out];have:=hjl.out;have:=HL3.out;omega
    by_cases hj:j < l0.length
    ·
     have hj':jj < (l0.length:Int):=by rw [hjj.out];omega
     obtain ⟨ad,A1,c1,rfl,hcell,hlc,hC⟩:=at_L8 (Kd.C_below HR.out hb.out) jj hj0 hj'
     obtain ⟨y,hy⟩: ∃ y,y=rd_L8 l0 jj:=⟨_,rfl⟩
     rw [← hy] at hcell hC
     have hs:=api_Slot_19.step l0 j hj
     rw [← hjj.out,← hy] at hs
     have hle:=api_Slot_19.le l0 (j+1)
     rw [hs,List.length_append] at hle
     obtain ⟨x,hx⟩: ∃ x,x=(l0.take j).flatten:=⟨_,rfl⟩
     rw [← hx] at hs hle HO
     have HS:=Aside0.mk hs
     have hn1:=Aside0.mk (show jj+1=((j+1:Nat):Int) by rw [hjj.out];omega)
     have Hj:=Aside0.mk hj
     have HC:=Aside0.mk hC
     have hlim:=Aside0.mk (show (x.length+y.length) * 48≤140737488355328 by have:=HLT.out;omega)
     obtain ⟨A6,c6,rfl⟩:=Kd.R_slice HO.out
     clear hs hle hj hC hlc hy hx
     go_wp2_with (first|((with_reducible refine gate_builtin (b:= .append) (xs:= #[.tmp 31,.tmp 32]) rfl ?_);at_builtin;refine Kd.R_append_rows k42 (w0:=w) w.heap.size rfl (.tmp 31) (.tmp 32) 27 42 (.agg #[(.int .i64 0),(.int .i64 0),(.int .i64 0),(.int .i64 0),(.int .i64 0),(.int .i64 0)]) 48 rfl Try.underlying27 info42 rfl (by decide) (by decide) (.slice A6 x.length c6) x y A1 y.length c1 (fun _=>True) (fun _=>False) rfl rfl HO.out HC.out (fun x cs hx=>by obtain rfl:=k42_open hx;exact k42_mkM _ _ _ _) (fun _ h=>h.elim) (fun _ _=>trivial) hb.out hb.out.size hlim.out ?_;intro v_ w1 ho hb1 hg1 hat;rw [← HS.out] at ho;have n0_:=Aside0.mk ho;have n1_:=Aside0.mk hb1;clear ho hb1 hg1 hat))
     go_roundg (l0.length - (j+1))
     case measure=>have:=Hj.out;omega
     case rel=>exact ⟨j+1,jj+1,rfl,hn1,⟨Hj.out⟩,rfl,n0_,n1_⟩
    ·
     have hj': ¬ jj < (l0.length:Int):=by rw [hjj.out];omega
     have HF:=HO.out
     rw [show j=l0.length by have:=hjl.out;omega,List.take_length] at HF
     have HF:=Aside0.mk HF
     clear hj HO hjl
     go_wp2
     go_ret
     exact ⟨_,rfl,HF.out,hb.out⟩
end
/-! ### bits_Mul32:function 82 -/
def bits_Mul32.f (a0:Int) (a1:Int):Option (Int × Int):=some (((IntKind.u64.wrap ((IntKind.u64.wrap (a0)) * (IntKind.u64.wrap (a1)))) / 4294967296) % 4294967296,(IntKind.u64.wrap ((IntKind.u64.wrap (a0)) * (IntKind.u64.wrap (a1)))) % 4294967296)
set_option maxHeartbeats 8000000 in
set_option maxRecDepth 100000 in
theorem bits_Mul32.calls (a0:Int) (a1:Int) (r1:Int) (r2:Int) (w:World) (h:bits_Mul32.f a0 a1=some (r1,r2)) :
  Calls Try.prog 82 #[.int .u32 a0,.int .u32 a1] w fun e w'=>e= .returned (.tuple #[.int .u32 r1,.int .u32 r2])∧Drawn0 w w':=by
 have H:(some (((IntKind.u64.wrap ((IntKind.u64.wrap (a0)) * (IntKind.u64.wrap (a1)))) / 4294967296) % 4294967296,(IntKind.u64.wrap ((IntKind.u64.wrap (a0)) * (IntKind.u64.wrap (a1)))) % 4294967296))=some (r1,r2):=h
 clear h
 simp only [Option.some.injEq,Prod.mk.injEq] at H
 obtain ⟨rfl,rfl⟩:=H
 go_enter Try.func82,Try.ntmps82
 go_wp2
 go_ret2
 exact ⟨by first|rfl|(simp;done)|(simp [*];done),by repeat (first|exact Drawn0.refl _|apply Drawn0.step)⟩
/-! ### bits_Mul64:function 83 -/
def bits_Mul64.f (a0:Int) (a1:Int):Option (Int × Int):=some (IntKind.u64.wrap ((IntKind.u64.wrap ((IntKind.u64.wrap ((a0 / 4294967296) * (a1 / 4294967296)))+((IntKind.u64.wrap ((IntKind.u64.wrap ((a0 / 4294967296) * (Go.bits .and .u64 a1 4294967295)))+((IntKind.u64.wrap ((Go.bits .and .u64 a0 4294967295) * (Go.bits .and .u64 a1 4294967295))) / 4294967296))) / 4294967296)))+((IntKind.u64.wrap ((Go.bits .and .u64 (IntKind.u64.wrap ((IntKind.u64.wrap ((a0 / 4294967296) * (Go.bits .and .u64 a1 4294967295)))+((IntKind.u64.wrap ((Go.bits .and .u64 a0 4294967295) * (Go.bits .and .u64 a1 4294967295))) / 4294967296))) 4294967295)+(IntKind.u64.wrap ((Go.bits .and .u64 a0 4294967295) * (a1 / 4294967296))))) / 4294967296)),IntKind.u64.wrap (a0 * a1))
set_option maxHeartbeats 8000000 in
set_option maxRecDepth 100000 in
theorem bits_Mul64.calls (a0:Int) (a1:Int) (r1:Int) (r2:Int) (w:World) (h:bits_Mul64.f a0 a1=some (r1,r2)) :
  Calls Try.prog 83 #[.int .u64 a0,.int .u64 a1] w fun e w'=>e= .returned (.tuple #[.int .u64 r1,.int .u64 r2])∧Drawn0 w w':=by
 have H:(some (IntKind.u64.wrap ((IntKind.u64.wrap ((IntKind.u64.wrap ((a0 / 4294967296) * (a1 / 4294967296)))+((IntKind.u64.wrap ((IntKind.u64.wrap ((a0 / 4294967296) * (Go.bits .and .u64 a1 4294967295)))+((IntKind.u64.wrap ((Go.bits .and .u64 a0 4294967295) * (Go.bits .and .u64 a1 4294967295))) / 4294967296))) / 4294967296)))+((IntKind.u64.wrap ((Go.bits .and .u64 (IntKind.u64.wrap ((IntKind.u64.wrap ((a0 / 4294967296) * (Go.bits .and .u64 a1 4294967295)))+((IntKind.u64.wrap ((Go.bits .and .u64 a0 4294967295) * (Go.bits .and .u64 a1 4294967295))) / 4294967296))) 4294967295)+(IntKind.u64.wrap ((Go.bits .and .u64 a0 4294967295) * (a1 / 4294967296))))) / 4294967296)),IntKind.u64.wrap (a0 * a1)))=some (r1,r2):=h
 clear h
 simp only [Option.some.injEq,Prod.mk.injEq] at H
 obtain ⟨rfl,rfl⟩:=H
 go_enter Try.func83,Try.ntmps83
 go_wp2
 go_ret2
 exact ⟨by first|rfl|(simp;done)|(simp [*];done),by repeat (first|exact Drawn0.refl _|apply Drawn0.step)⟩
/-! ### bits_Mul:function 55 -/
def bits_Mul.f (a0:Int) (a1:Int):Option (Int × Int):=(bits_Mul64.f a0 a1).bind fun bt213=>(some (bt213.1,bt213.2))
set_option maxHeartbeats 8000000 in
set_option maxRecDepth 100000 in
theorem bits_Mul.calls (a0:Int) (a1:Int) (r1:Int) (r2:Int) (w:World) (h:bits_Mul.f a0 a1=some (r1,r2)) :
  Calls Try.prog 55 #[.int .u64 a0,.int .u64 a1] w fun e w'=>e= .returned (.tuple #[.int .u64 r1,.int .u64 r2])∧Drawn0 w w':=by
 have H:((bits_Mul64.f a0 a1).bind fun bt213=>(some (bt213.1,bt213.2)))=some (r1,r2):=h
 clear h
 replace H:=Option.bind_eq_some_iff.mp H
 obtain ⟨⟨t213,t214⟩,A30,H⟩:=H
 replace H:(some (t213,t214))=some (r1,r2):=H
 have A3:=Aside0.mk A30
 clear A30
 simp only [Option.some.injEq,Prod.mk.injEq] at H
 obtain ⟨rfl,rfl⟩:=H
 go_enter Try.func55,Try.ntmps55
 go_wp2_with (first|((with_reducible refine gate_callee (f:=83) rfl ?_);refine goesL_ (some 25) rfl rfl Try.func83 (by kernel_rfl) rfl #[.int .u64 a0,.int .u64 a1] rfl (by (try simp only [List.map_toArray,List.map_cons,List.map_nil]);first|done|rfl|(simp only [List.length_drop,List.length_take];rfl)) ?_;(with_reducible refine (bits_Mul64.calls a0 a1 t213 t214 _ A3.out).mono ?_);rintro e w' ⟨rfl,⟨nd,rfl⟩⟩;refine ⟨_,rfl,?_⟩))
 go_ret2
 exact ⟨by first|rfl|(simp;done)|(simp [*];done),by repeat (first|exact Drawn0.refl _|apply Drawn0.step)⟩
/-! ### api_Slot_37:function 37:by hand -/
def api_Slot_37.f (l0:List S42) (a1:Int):Option (List S42):=if l0.length=1∧0≤a1∧a1 < 1000000 then some (List.replicate a1.toNat (rd_T42 l0 0)) else none
section
open Go.Proofs.YteoaegigjlhamaaH
theorem api_Slot_37.flat:Flat k42 (fun x=>[.int .i64 x.f0,.int .i64 x.f1,.int .i64 x.f2,.int .i64 x.f3,.int .i64 x.f4,.int .i64 x.f5]) :=
 ⟨fun w x cs=>⟨k42_open,fun h=>h▸k42_mk w x⟩,fun w base ok x cs=>⟨k42_openM,fun h=>h▸k42_mkM w base ok x⟩,by decide⟩
theorem api_Slot_37.mul (n:Int) (h0:0≤n) (h1:n < 1000000):bits_Mul.f 1 n=some (0,n):=by
 have hk: ∀ n:Int,0≤n→n < 2 ^ 64→IntKind.u64.wrap n=n:=fun n h0 h1=>by simp only [IntKind.wrap,IntKind.bits,IntKind.signed];simp;omega
 have e2:Go.bits .and .u64 n 4294967295=n:=by
  have:=bits_mask .u64 64 (by decide) hk 32 (by decide) n h0 (by omega)
  rw [show (2:Int) ^ 32 - 1=4294967295 by decide] at this
  rw [this]
  omega
 have e1:Go.bits .and .u64 1 4294967295=1:=by decide +kernel
 have e0:Go.bits .and .u64 0 4294967295=0:=by decide +kernel
 have e3:n / 4294967296=0:=by omega
 have w0:IntKind.u64.wrap 0=0:=by decide +kernel
 have wn:IntKind.u64.wrap n=n:=hk n h0 (by omega)
 simp only [bits_Mul.f,bits_Mul64.f,Option.bind_some,e1,e2,e3,show (1:Int) / 4294967296=0 by decide,Int.zero_mul,Int.one_mul,Int.mul_zero,w0,wn,Int.add_zero,Int.zero_add,e0,show (0:Int) / 4294967296=0 by decide]
theorem api_Slot_37.first {W:World} {base g N cap:Nat} {ad:Addr} {x:S42} (c0 ty:Nat) (HO:Kd.R k42 42 W base (fun _=>True) (.slice (some ⟨g,0,none⟩) N cap) (List.replicate N z42)) (hN:0 < N) (HC:Kd.C k42 W (some ad) 1 [x]) :
  ∃ W1 xs,(Builtin.copy_ #[27,27] ty #[.slice (some ⟨g,0,none⟩) N cap,.slice (some ad) 1 c0]).run Try.prog W= .ok (.int .i64 1) W1∧Kd.R k42 42 W1 base (fun _=>True) (.slice (some ⟨g,0,none⟩) N cap) xs∧xs.take 1=[x]∧W.grownBy W1 (some g):=by
 obtain ⟨W1,h1,h2,h3⟩:=api_Slot_37.flat.copy W 27 27 ty 42 Try.underlying27 (by kernel_rfl) HO hN 0 (Nat.zero_le _) cap 1 c0 ad [x] HC
 have e:Nat.min 1 (N - 0)=1:=Nat.min_eq_left (by omega)
 have e2:min 1 (N - 0)=1:=Nat.min_eq_left (by omega)
 rw [e,Nat.zero_mul,Nat.sub_zero] at h1
 rw [e2] at h2
 exact ⟨W1,_,h1,h2,by simp,h3⟩
theorem api_Slot_37.next {W:World} {base g N cap m:Nat} {x:S42} {xs:List S42} (c' ty:Nat) (HO:Kd.R k42 42 W base (fun _=>True) (.slice (some ⟨g,0,none⟩) N cap) xs) (h0:0 < m) (hm:m < N) (hx:xs.take m=List.replicate m x) :
  ∃ W1 xs1,(Builtin.copy_ #[27,27] ty #[.slice (some ⟨g,m * 6,none⟩) (N - m) c',.slice (some ⟨g,0,none⟩) m cap]).run Try.prog W= .ok (.int .i64 (min m (N - m):Nat)) W1∧Kd.R k42 42 W1 base (fun _=>True) (.slice (some ⟨g,0,none⟩) N cap) xs1∧xs1.take (m+min m (N - m))=List.replicate (m+min m (N - m)) x∧W.grownBy W1 (some g):=by
 have hN:=(Kd.R_reads' HO).1
 have HC:=Kd.C_take (Kd.R_reads' HO).2.2 (m:=m) (by omega)
 rw [List.length_take,Nat.min_eq_left (by omega:m≤xs.length)] at HC
 obtain ⟨W1,h1,h2,h3⟩:=api_Slot_37.flat.copy W 27 27 ty 42 Try.underlying27 (by kernel_rfl) HO (by omega) m (Nat.le_of_lt hm) c' m cap ⟨g,0,none⟩ (xs.take m) HC
 refine ⟨W1,_,h1,h2,?_,h3⟩
 have hl:(xs.take m++(xs.take m).take (min m (N - m))).length=m+min m (N - m):=by
  simp only [List.length_append,List.length_take]
  omega
 rw [List.take_append_of_le_length (by rw [hl];exact Nat.le_refl _),List.take_of_length_le (by rw [hl];exact Nat.le_refl _),hx,List.take_replicate,List.replicate_append_replicate,Nat.min_eq_left (Nat.min_le_left _ _)]
set_option maxHeartbeats 2000000 in
set_option maxRecDepth 100000 in
theorem api_Slot_37.calls (A0:Option Addr) (c0:Nat) (l0:List S42) (a1:Int) (r:List S42) (w:World) (hr0:Kd.C k42 w A0 l0.length l0) (hc0:l0.length≤c0) (h:api_Slot_37.f l0 a1=some r) :
  Calls Try.prog 37 #[.slice A0 l0.length c0,.int .i64 a1] w fun e w'=> ∃ v0_:Value,e= .returned v0_∧Kd.R k42 42 w' w.heap.size (fun _=>True) v0_ r∧Below w.heap.size w w':=by
 unfold api_Slot_37.f at h
 split at h
 rotate_left
 ·
  cases h
 rename_i hl
 obtain rfl:=Option.some.inj h
 obtain ⟨hl0,h0,h1⟩:=hl
 clear h
 obtain ⟨x,rfl⟩: ∃ x,l0=[x]:=by
  cases l0 with
  | nil=>cases hl0
  | cons x r=>cases r with
   | nil=>exact ⟨x,rfl⟩
   | cons y r=>simp at hl0
 rw [show rd_T42 [x] 0=x from rfl]
 simp only [List.length_cons,List.length_nil,Nat.zero_add] at hr0 hc0 ⊢
 clear hl0
 obtain ⟨ad,hA,_⟩:=hr0.2.2 (by decide)
 subst hA
 have HR:=Aside0.mk hr0
 have HB:=Aside0.mk (Below.refl w.heap.size w)
 have HM:=Aside0.mk (api_Slot_37.mul a1 h0 h1)
 obtain ⟨i0,hi0,_,hsz,_⟩:=info_parts info42
 have hss:(Try.prog.info? 42).map (·.size)=some 6:=by kernel_rfl
 have hs1:=Aside0.mk hss
 have hn: ¬ a1 < 0:=by omega
 have hw1:IntKind.u64.wrap a1=a1:=by simp only [IntKind.wrap,IntKind.bits,IntKind.signed];simp;omega
 have hw2:IntKind.u64.wrap 1=1:=by decide +kernel
 have hw3:IntKind.i64.wrap a1=a1:=by rw [IntKind.wrap_i64];omega
 have hm: ¬ a1 > 9223372036854775807:=by omega
 have hc:=Aside0.mk hc0
 clear hr0 hss hc0
 rcases Int.lt_or_eq_of_le h0 with hp|hz
 rotate_left
 ·
  subst hz
  have hcp:=fun (ty:TypeId) (d:Option Addr) (dc:Nat) (W:World)=>copy_noneS (P:=Try.prog) 6 W 27 27 ty 42 d (some ad) dc 1 c0 Try.underlying27 hs1.out
  go_enter Try.func37,Try.ntmps37
  go_wp2_with (first|((with_reducible refine gate_callee (f:=55) rfl ?_);refine goesL_ (some 18) rfl rfl Try.func55 (by kernel_rfl) rfl #[.int .u64 1,.int .u64 0] rfl (by (try simp only [List.map_toArray,List.map_cons,List.map_nil]);first|done|rfl) ?_;(with_reducible refine (bits_Mul.calls 1 0 0 0 _ HM.out).mono ?_);rintro e w' ⟨rfl,⟨nd,rfl⟩⟩;refine ⟨_,rfl,?_⟩)|((with_reducible refine gate_dst (N:=30) rfl ?_);refine Kd.R_make k42 (w0:=w) w.heap.size 42 rfl rfl 27 (.tmp 29) (.tmp 29) rfl 0 rfl rfl Try.underlying27 (.agg #[(.int .i64 0),(.int .i64 0),(.int .i64 0),(.int .i64 0),(.int .i64 0),(.int .i64 0)]) 48 info42 rfl (by decide) (by decide) z42 (ok:=fun _=>True) (okp:=fun _=>True) (k42_mkM _ _ _ _) (fun _ _=>trivial) trivial (Int.le_refl 0) (by decide) (pw_below_drewN HB.out nd) (by exact (pw_below_drewN HB.out nd).size) ?_;intro v1 w1 ho hb _ _;obtain ⟨A1,c1,rfl⟩:=Kd.R_slice ho;have n0_:=Aside0.mk ho;have n1_:=Aside0.mk hb;clear ho hb))
  go_loopg [8] 0 (fun kx s8 wr=>s8= .int .i64 0∧Aside0 (Kd.R k42 42 wr w.heap.size (fun _=>True) (.slice A1 0 c1) [])∧Aside0 (Below w.heap.size w wr))
  case atStart=>exact ⟨rfl,n0_,n1_⟩
  case round =>
   obtain ⟨rfl,m0_,m1_⟩:=hrel
   go_wp2
   go_ret
   exact ⟨_,rfl,m0_.out,m1_.out⟩
 ·
  obtain ⟨N,hN⟩:=Int.eq_ofNat_of_zero_le h0
  have HN:=Aside0.mk hN
  have hNp:=Aside0.mk (show 0 < N by omega)
  clear hN
  go_enter Try.func37,Try.ntmps37
  go_wp2_with (first|((with_reducible refine gate_callee (f:=55) rfl ?_);refine goesL_ (some 18) rfl rfl Try.func55 (by kernel_rfl) rfl #[.int .u64 1,.int .u64 a1] rfl (by (try simp only [List.map_toArray,List.map_cons,List.map_nil]);first|done|rfl) ?_;(with_reducible refine (bits_Mul.calls 1 a1 0 a1 _ HM.out).mono ?_);rintro e w' ⟨rfl,⟨nd,rfl⟩⟩;refine ⟨_,rfl,?_⟩)|((with_reducible refine gate_dst (N:=30) rfl ?_);refine Kd.R_make k42 (w0:=w) w.heap.size 42 rfl rfl 27 (.tmp 29) (.tmp 29) rfl a1 rfl rfl Try.underlying27 (.agg #[(.int .i64 0),(.int .i64 0),(.int .i64 0),(.int .i64 0),(.int .i64 0),(.int .i64 0)]) 48 info42 rfl (by decide) (by decide) z42 (ok:=fun _=>True) (okp:=fun _=>True) (k42_mkM _ _ _ _) (fun _ _=>trivial) trivial h0 (by omega) (pw_below_drewN HB.out nd) (by exact (pw_below_drewN HB.out nd).size) ?_;intro v1 w1 ho hb _ _;rw [show a1.toNat=N by have:=HN.out;omega] at ho;obtain ⟨g,cap,hv,_⟩:=Kd.R_form ho (by rw [List.length_replicate];exact hNp.out);rw [List.length_replicate] at hv;subst hv;obtain ⟨w2,xs2,hc2,hR2,hx2,hg2⟩:=api_Slot_37.first c0 3 ho hNp.out (Kd.C_below HR.out hb);have n0_:=Aside0.mk hR2;have n1_:=Aside0.mk (hb.grown hg2 hb.size (fun k hk=>Kd.R_base ho k hk));have n2_:=Aside0.mk hx2;have n4_:=Aside0.mk (Kd.R_reads' ho).2.1;clear ho hb hR2 hx2 hg2))
  go_loopg [8] (N - 1) (fun kx s8 wr=> ∃ (m:Nat) (ii:Int) (xs:List S42),s8= .int .i64 ii∧Aside0 (ii=(m:Int))∧Aside0 (0 < m∧m≤N)∧kx=N - m∧Aside0 (Kd.R k42 42 wr w.heap.size (fun _=>True) (.slice (some ⟨g,0,none⟩) N cap) xs)∧Aside0 (xs.take m=List.replicate m x)∧Aside0 (Below w.heap.size w wr))
  case atStart=>exact ⟨1,1,xs2,rfl,⟨rfl⟩,⟨by decide,hNp.out⟩,rfl,n0_,⟨n2_.out.trans rfl⟩,n1_⟩
  case round =>
   clear n0_ n1_ n2_
   obtain ⟨m,ii,xs,rfl,hii,hmm,rfl,HX,hx,hb⟩:=hrel
   by_cases hi:m < N
   ·
    have hi':ii < (N:Int):=by rw [hii.out];omega
    have hw4:IntKind.i64.wrap (ii+(min m (N - m):Nat))=((m+min m (N - m):Nat):Int):=by
     rw [IntKind.wrap_i64,hii.out]
     have:=HN.out
     omega
    obtain ⟨w3,xs3,hc3,hR3,hx3,hg3⟩:=api_Slot_37.next (W:=wr.drew) (cap - m) 3 (Kd.R_drew HX.out) hmm.out.1 hi hx.out
    have hq0: ∀ W:World,(Instr.sliceAt 27 (.slice (some ⟨g,0,none⟩) N cap) (some (.int .i64 ii)) none none).run Try.prog W= .ok (.slice (some ⟨g,m * 6,none⟩) (N - m) (cap - m)) W:=by
     have h1:=cut_from (P:=Try.prog) 27 42 .i64 Try.underlying27 hi0 6 hsz (some ⟨g,0,none⟩) N cap ii (by rw [hii.out];omega) (by omega)
     rw [show ii.toNat=m by rw [hii.out];omega,if_neg (by have:=n4_.out;omega),Option.map_some,add_plain] at h1
     exact fun W=>(run_sliceAt_slice W 27 _ _ _ _ (by rw [show (Try.prog).elem 27=42 from by kernel_rfl];exact Try.underlying27)).trans (h1 W)
    have hq1: ∀ W:World,(Instr.sliceAt 27 (.slice (some ⟨g,0,none⟩) N cap) none (some (.int .i64 ii)) none).run Try.prog W= .ok (.slice (some ⟨g,0,none⟩) m cap) W:=by
     have h1:=cut_to (P:=Try.prog) 27 42 .i64 Try.underlying27 hi0 (some ⟨g,0,none⟩) N cap ii (by rw [hii.out];omega) (by omega) n4_.out
     rw [show ii.toNat=m by rw [hii.out];omega] at h1
     exact fun W=>(run_sliceAt_slice W 27 _ _ _ _ (by rw [show (Try.prog).elem 27=42 from by kernel_rfl];exact Try.underlying27)).trans (h1 W)
    have Hi:=Aside0.mk hi
    have H3:=Aside0.mk hR3
    have HX3:=Aside0.mk hx3
    have HB3:=Aside0.mk ((below_drew hb.out).grown hg3 hb.out.size (fun k hk=>by injection hk with hk;rw [← hk];exact Kd.R_base HX.out g (by simp [Value.ownBlock])))
    clear hi hR3 hx3 hg3
    go_upto_region 9 with (fail)
    go_region_law (refine copy_step rfl (.tmp 41) (.tmp 44) 27 27 rfl _ _ (by simp [Act.eval,Act.put]) (by simp [Act.eval,Act.put]) hc3 ?_)
    simp only [Act.put,List.getElem_toArray,List.getElem_cons_succ,List.getElem_cons_zero,List.setIfInBounds_toArray,List.set_cons_succ,List.set_cons_zero]
    go_wp2
    go_roundg (N - (m+min m (N - m)))
    case measure=>have:=hmm.out;have:=Hi.out;omega
    case rel=>exact ⟨m+min m (N - m),_,xs3,rfl,⟨(Int.natCast_add _ _).symm⟩,⟨by have:=hmm.out;omega,by have:=hmm.out;omega⟩,rfl,H3,HX3,HB3⟩
   ·
    have hi': ¬ ii < (N:Int):=by rw [hii.out];omega
    have hxx:xs=List.replicate N x:=by
     have e:=hx.out
     rw [show m=N by have:=hmm.out;omega,List.take_of_length_le (by rw [← (Kd.R_reads' HX.out).1];exact Nat.le_refl _)] at e
     exact e
    have HF:=Aside0.mk (hxx▸HX.out)
    clear hi hxx
    go_wp2
    go_ret
    exact ⟨_,rfl,by rw [show a1.toNat=N by have:=HN.out;omega];exact HF.out,hb.out⟩
end
/-! ### place_pads:function 20 -/
def place_pads.f (a0:Int):Option ((List (S42))):=(api_Slot_37.f (([(⟨2,0,0,0,0,0⟩:S42)]:List (S42))) (mx a0 0)).bind fun t218=>(some t218)
set_option maxHeartbeats 8000000 in
set_option maxRecDepth 100000 in
theorem place_pads.calls (a0:Int) (r:List (S42)) (w:World) (h:place_pads.f a0=some r) :
  Calls Try.prog 20 #[.int .i64 a0] w fun e w'=> ∃ v0_:Value,e= .returned (v0_)∧Kd.R k42 42 w' w.heap.size (fun _=>True) v0_ r∧Below w.heap.size w w':=by
 have hu42:=Try.underlying42
 have HB:=Aside0.mk (Below.refl w.heap.size w)
 have H:((api_Slot_37.f (([(⟨2,0,0,0,0,0⟩:S42)]:List (S42))) (mx a0 0)).bind fun t218=>(some t218))=some r:=h
 clear h
 obtain ⟨y215,hy215⟩: ∃ y_:List (S42),y_=(([(⟨2,0,0,0,0,0⟩:S42)]:List (S42))):=⟨_,rfl⟩
 replace H:((api_Slot_37.f y215 (mx a0 0)).bind fun t218=>(some t218))=some r:=by first|(rw [hy215];with_reducible exact H)|(have H2_:=(Option.bind_some _ _).symm.trans H;rw [hy215];with_reducible exact H2_)|(have H2_:=(Option.bind_some _ _).symm.trans H;with_reducible exact H2_)|with_reducible exact H|(rw [hy215];exact H)|exact H
 have Ny215:=Aside0.mk hy215
 clear hy215
 obtain ⟨ji2,hji2⟩: ∃ j_:Int,(mx a0 0)=j_:=⟨_,rfl⟩
 replace H:((api_Slot_37.f y215 (ji2)).bind fun t218=>(some t218))=some r:=by first|(rw [hji2] at H;exact H)|(simp only [hji2] at H ⊢;exact H)
 (try (have hji2l:0≤ji2:=by (rw [← hji2];unfold mx;(repeat' split) <;> omega)))
 (try (have hji2m:0≤ji2:=by omega))
 have hji2_:(if a0 < 0 then 0 else a0)=ji2:=hji2
 replace H:=Option.bind_eq_some_iff.mp H
 obtain ⟨t218,A30,H⟩:=H
 replace H:(some t218)=some r:=H
 have A3:=Aside0.mk A30
 clear A30
 obtain rfl:=Option.some.inj H
 go_enter Try.func20,Try.ntmps20
 go_wp2_with (first|((with_reducible refine gate_dst (N:=4) rfl ?_);refine Kd.R_lit k42 _ 42 ?hg (N:=4) ?hd (xs:=([(⟨2,0,0,0,0,0⟩:S42)]:List (S42))) (inner:=[.int .i64 2,.int .i64 0,.int .i64 0,.int .i64 0,.int .i64 0,.int .i64 0]) (ok:=fun _=>True) (okp:=fun _=>True) ?hr ?hp (fun _ hk=>hk) trivial (Below.refl _ _) (Nat.le_refl _) (by simp) ?_;(case hd=>rfl);(case hg=>rfl);(case hr=>first|(go_simp;done)|(go_simp;rfl));(case hp=>exact (Reps.c6 (show Kd.M k42 _ _ _ (⟨2,0,0,0,0,0⟩:S42) [.int .i64 2,.int .i64 0,.int .i64 0,.int .i64 0,.int .i64 0,.int .i64 0] from (k42_mkM _ _ _ (⟨2,0,0,0,0,0⟩:S42))) (Reps.none _ _)));intro v216 w4 ho5 hb hg_ hnew_;clear hg_ hnew_;(first|rw [← Ny215.out] at ho5|(simp only [Int.reduceToNat] at ho5;rw [← Ny215.out] at ho5));have n0_:=Aside0.mk (Kd.R_lower ho5 (below_size (by repeat (first|(with_reducible first|exact HB.out|apply below_alloc|apply pw_below_drewN|apply below_drew1)|exact HB.out))));have n1_:=Aside0.mk (below_step (by repeat (first|(with_reducible first|exact HB.out|apply below_alloc|apply pw_below_drewN|apply below_drew1)|exact HB.out)) hb);clear HB;have HO217:=n0_;have HB:=n1_;clear n0_ n1_;clear hb ho5;obtain ⟨Ao6,co6,eo6⟩:=Kd.R_slice HO217.out;subst eo6)|((with_reducible refine gate_callee (f:=37) rfl ?_);refine goesL_ (some 7) rfl rfl Try.func37 (by kernel_rfl) rfl #[.slice Ao6 y215.length co6,.int .i64 ji2] rfl (by (try simp only [List.map_toArray,List.map_cons,List.map_nil]);first|done|(simp only [hji2];rfl)|rfl|(simp only [List.length_drop,List.length_take];rfl)) ?_;(with_reducible refine (api_Slot_37.calls _ _ y215 ji2 t218 _ ?side1 ?side2 A3.out).mono ?_);(case side1=>repeat (first|exact (Kd.R_reads' HO217.out).2.2|(with_reducible refine Kd.C_alloc ?_ _)|(with_reducible refine Kd.C_drewN ?_ _)|(with_reducible refine Kd.C_drew ?_)));(case side2=>exact (Kd.R_reads' HO217.out).2.1);rintro e w7 ⟨v219,rfl,ho0,hb⟩;refine ⟨_,rfl,?_⟩;have n0_:=Aside0.mk (Kd.R_elder' (by (with_reducible repeat (first|apply Kd.R_alloc|apply Kd.R_drewN|apply Kd.R_drew));exact HO217.out) (Kd.R_base ho0) hb);have n1_:=Aside0.mk (Kd.R_lower (Kd.R_new' ho0 (Kd.R_lt (by (with_reducible repeat (first|apply Kd.R_alloc|apply Kd.R_drewN|apply Kd.R_drew));exact HO217.out))) (below_size (by repeat (first|(with_reducible first|exact HB.out|apply below_alloc|apply pw_below_drewN|apply below_drew1)|exact HB.out))));have n2_:=Aside0.mk (below_step (by repeat (first|(with_reducible first|exact HB.out|apply below_alloc|apply pw_below_drewN|apply below_drew1)|exact HB.out)) hb);clear HO217;clear HB;have HO217:=n0_;have HO220:=n1_;have HB:=n2_;clear n0_ n1_ n2_;(try clear hb);(try clear hb2);(try clear hk);(try clear hi);(try clear ho0)))
 go_ret
 exact ⟨_,by first|rfl|(simp [errW_none,errW_some] <;> rfl)|(simp only [← hji2];first|rfl|(simp [errW_none,errW_some] <;> rfl))|(simp [*,errW_none,errW_some] <;> rfl),by (with_reducible repeat (first|apply Kd.R_alloc|apply Kd.R_drewN|apply Kd.R_drew));exact Kd.R_mono HO220.out (fun _ hk=>trivial),by repeat (first|(with_reducible first|exact HB.out|apply below_alloc|apply pw_below_drewN|apply below_drew1)|exact HB.out)⟩
/-! ### place_Slots:function 8:by hand -/
def place_Slots.left (a5 x:Int):Int:=if a5=3 then x else if a5=4 then x / 2 else 0
def place_Slots.lay (t:List S42) (a4 a5:Int):Option (List S42 × Int) :=
 (place_pads.f (place_Slots.left a5 (a4 - (min t.length a4.toNat:Nat)))).bind fun p=>(place_pads.f (a4 - (min t.length a4.toNat:Nat) - place_Slots.left a5 (a4 - (min t.length a4.toNat:Nat)))).bind fun q =>
 (api_Slot_19.f [p,t.take (min t.length a4.toNat),q]).bind fun r=>some (r,0)
def place_Slots.bad (n m:Nat) (a3 a4 a5:Int):Prop:=n≠m∨(a3≠0∧a3≠1)∨a4 < 1∨a4 > 1024∨a5 < 2∨a5 > 4
instance place_Slots.badD (n m:Nat) (a3 a4 a5:Int):Decidable (place_Slots.bad n m a3 a4 a5):=by unfold place_Slots.bad;infer_instance
def place_Slots.f (k:Nat) (l0:List S36) (l1:List Int) (a2_0 a2_1 a2_2 a2_3 a2_4 a3 a4 a5:Int):Option (List S42 × Int) :=
 if place_Slots.bad l0.length l1.length a3 a4 a5 then some ([],1) else
 (place_begin.f l0 l1 a2_0 a2_1 a2_2 a2_3 a2_4 a3).bind fun b=>if b.2.2.2.2.2.2.2.2=true then (place_laid_text.f k b.1 b.2.1 b.2.2.1 b.2.2.2.1 b.2.2.2.2.1 b.2.2.2.2.2.1 b.2.2.2.2.2.2.1 b.2.2.2.2.2.2.2.1 a3).bind fun t=>place_Slots.lay t a4 a5 else some ([],4)
theorem place_Slots.mono: ∀ a0 a1 a2 a3 a4 a5 a6 a7 a8 a9 k,LeO (place_Slots.f k a0 a1 a2 a3 a4 a5 a6 a7 a8 a9) (place_Slots.f (k+1) a0 a1 a2 a3 a4 a5 a6 a7 a8 a9):=by
 intro a0 a1 a2 a3 a4 a5 a6 a7 a8 a9 k
 unfold place_Slots.f
 refine LeO.ite (LeO.refl _) (LeO.bind (LeO.refl _) (fun b=>LeO.ite (LeO.bind ?_ (fun _=>LeO.refl _)) (LeO.refl _)))
 exact place_laid_text.mono _ _ _ _ _ _ _ _ _ k
section
open Go.Proofs.YteoaegigjlhamaaH Go.Maps
theorem place_Slots.key:Keyed Try.prog 3:=int_keyed Try.underlying3
theorem place_Slots.zero (w:World):(zeroValue 3).run Try.prog w= .ok (.int .i64 0) w:=by kernel_rfl
theorem place_Slots.wf {q:Int} (h0: -9223372036854775808≤q) (h1:q≤9223372036854775807):(Lit.int .i64 q).wf=true:=by
 have:=wrap64_wf q
 rwa [show wrap64 q=q by unfold wrap64;omega] at this
set_option maxRecDepth 100000 in
theorem place_Slots.maps (w:World) (x y q:Int) (hx:0≤x) (hx1:x < 1000000) (hy:0≤y) (hy1:y < 1000000) (hq:q=2∨q=3∨q=4) :
  ∃ wA wB,(Instr.mapUpdate 54 (.map (some w.heap.size)) (.int .i64 3) (.int .i64 x)).run Try.prog (w.alloc (.map #[] 0))= .ok () wA∧(Instr.mapUpdate 54 (.map (some w.heap.size)) (.int .i64 4) (.int .i64 y)).run Try.prog wA= .ok () wB ∧
   (Instr.lookup 54 (.map (some w.heap.size)) (.int .i64 q) false).run Try.prog wB= .ok (.int .i64 (if q=3 then x else if q=4 then y else 0)) wB∧Below w.heap.size w wB:=by
 have m0:(w.alloc (.map #[] 0)).ownsMap Try.prog 3 (plainElem (H:=Unit) Try.prog 3) w.heap.size 0 (.map []):=World.ownsMap_made _ _ _ _
 obtain ⟨wA,r1,m1,g1⟩:=m0.update place_Slots.key Try.underlying54 (by unfold maxLen;omega) (keyOf_int_mk Try.underlying3 (place_Slots.wf (q:=3) (by decide) (by decide))) (plainElem_int (H:=Unit) Try.underlying3 (place_Slots.wf (q:=x) (by omega) (by omega)))
 obtain ⟨wB,r2,m2,g2⟩:=m1.update place_Slots.key Try.underlying54 (by unfold maxLen;omega) (keyOf_int_mk Try.underlying3 (place_Slots.wf (q:=4) (by decide) (by decide))) (plainElem_int (H:=Unit) Try.underlying3 (place_Slots.wf (q:=y) (by omega) (by omega)))
 obtain ⟨c,r3,hat,_⟩:=m2.lookup_int place_Slots.key Try.underlying54 Try.underlying3 (place_Slots.zero wB) (keyOf_int_mk Try.underlying3 (place_Slots.wf (q:=q) (by omega) (by omega)))
 have kl: ∀ q:Int,WideAt.IsKeyLit (.int .i64 q):=fun q=>by constructor
 have hne: ∀ p q:Int,p≠q→(Lit.int .i64 p)≠ .int .i64 q:=fun p q h e=>by injection e with _ e;exact h e
 have hc:c=if q=3 then x else if q=4 then y else 0:=by
  rcases hq with rfl|rfl|rfl
  ·
   rw [atKey_put_other (hne 2 4 (by decide)),atKey_put_other (hne 2 3 (by decide))] at hat
   have e:(DataW.lit (.int .i64 0):DataW Unit)= .lit (.int .i64 c):=hat
   injection e with e
   injection e with _ e
   simp [← e]
  ·
   rw [atKey_put_other (hne 3 4 (by decide)),atKey_put_same m0.isMap (kl 3)] at hat
   injection hat with e
   injection e with _ e
   simp [← e]
  ·
   rw [atKey_put_same m1.isMap (kl 4)] at hat
   injection hat with e
   injection e with _ e
   simp [← e]
 rw [hc] at r3
 refine ⟨wA,wB,r1,r2,r3,?_⟩
 have b0:Below w.heap.size w (w.alloc (.map #[] 0)):=below_alloc (Below.refl _ _) _
 have b1:Below w.heap.size w wA:=b0.grown g1 b0.size (fun k hk=>by injection hk with hk;omega)
 exact b1.grown g2 b1.size (fun k hk=>by injection hk with hk;omega)
theorem place_Slots.three (W:World) (h:Nat) (t:TypeId) (A1 A2 A3:Option Addr) (c1 c2 c3:Nat) (x y z:List S42) (hh:W.heap[h]?=some (.cells #[.slice A1 x.length c1,.slice A2 y.length c2,.slice A3 z.length c3] t (0,0)))
  (k1:x.length≤c1) (k2:y.length≤c2) (k3:z.length≤c3) (h1:Kd.C k42 W A1 x.length x) (h2:Kd.C k42 W A2 y.length y) (h3:Kd.C k42 W A3 z.length z) :
  Kd.C (Kd.slice 42 k42) W (some ⟨h,0,none⟩) 3 [x,y,z]:=by
 refine ⟨rfl,by decide,fun _=>⟨_,rfl,fun j p hj=>?_⟩⟩
 have hcell: ∀ i,W.cell? ((⟨h,0,none⟩:Addr).add i)= #[Value.slice A1 x.length c1,.slice A2 y.length c2,.slice A3 z.length c3][i]?:=fun i=>by rw [add_plain];exact blk_cell hh i
 match j,hj with
 | 0,hj =>
  obtain rfl:x=p:=by simpa using hj
  exact ⟨[_],rfl,⟨A1,c1,rfl,k1,h1⟩,fun i u hu=>by cases i with|zero=>simp at hu;subst hu;exact hcell _|succ i=>simp at hu⟩
 | 1,hj =>
  obtain rfl:y=p:=by simpa using hj
  exact ⟨[_],rfl,⟨A2,c2,rfl,k2,h2⟩,fun i u hu=>by cases i with|zero=>simp at hu;subst hu;exact hcell _|succ i=>simp at hu⟩
 | 2,hj =>
  obtain rfl:z=p:=by simpa using hj
  exact ⟨[_],rfl,⟨A3,c3,rfl,k3,h3⟩,fun i u hu=>by cases i with|zero=>simp at hu;subst hu;exact hcell _|succ i=>simp at hu⟩
 | n+3,hj=>simp at hj
theorem place_Slots.concat (h:Nat) (x y z r:List S42) (W:World) (hc:Kd.C (Kd.slice 42 k42) W (some ⟨h,0,none⟩) 3 [x,y,z]) (hr:api_Slot_19.f [x,y,z]=some r) :
  Calls Try.prog 19 #[.slice (some ⟨h,0,none⟩) 3 3] W fun e w'=> ∃ v0_:Value,e= .returned v0_∧Kd.R k42 42 w' W.heap.size (fun _=>True) v0_ r∧Below W.heap.size W w':=api_Slot_19.calls (some ⟨h,0,none⟩) 3 [x,y,z] r W hc (Nat.le_refl 3) hr
set_option maxHeartbeats 8000000 in
set_option maxRecDepth 100000 in
theorem place_Slots.calls (k:Nat) (A0:Option Addr) (c0:Nat) (l0:List S36) (A1:Option Addr) (c1:Nat) (l1:List Int) (a2_0 a2_1 a2_2 a2_3 a2_4 a3 a4 a5:Int) (r1:List S42) (r2:Int) (w:World) (hr0:Kd.C k36 w A0 l0.length l0) (hc0:l0.length≤c0) (hr1:Kd.C (Kd.int .i64) w A1 l1.length l1) (hc1:l1.length≤c1) (h:place_Slots.f k l0 l1 a2_0 a2_1 a2_2 a2_3 a2_4 a3 a4 a5=some (r1,r2)) :
  Calls Try.prog 8 #[.slice A0 l0.length c0,.slice A1 l1.length c1,.agg #[.int .i64 a2_0,.int .i64 a2_1,.int .i64 a2_2,.int .i64 a2_3,.int .i64 a2_4],.int .i64 a3,.int .i64 a4,.int .i64 a5] w fun e w'=> ∃ v0_:Value,e= .returned (.tuple #[v0_,.int .i64 r2])∧Kd.R k42 42 w' w.heap.size (fun _=>True) v0_ r1∧Below w.heap.size w w':=by
 have HR0:=Aside0.mk hr0
 have HC0:=Aside0.mk hc0
 have HR1:=Aside0.mk hr1
 have HC1:=Aside0.mk hc1
 clear hr0 hc0 hr1 hc1
 unfold place_Slots.f at h
 by_cases hbad:place_Slots.bad l0.length l1.length a3 a4 a5
 ·
  rw [if_pos hbad] at h
  obtain ⟨rfl,rfl⟩:=Prod.mk.inj (Option.some.inj h)
  clear h
  have key:(l0.length≠l1.length)∨(l0.length=l1.length∧a3≠0∧a3≠1)∨(l0.length=l1.length∧(a3=0∨a3=1)∧(a4 < 1∨(¬ a4 < 1∧a4 > 1024)∨(¬ a4 < 1∧ ¬ a4 > 1024∧a5 < 2)∨(¬ a4 < 1∧ ¬ a4 > 1024∧ ¬ a5 < 2∧a5 > 4))):=by
   unfold place_Slots.bad at hbad
   omega
  clear hbad
  rcases key with q|⟨q,q2,q3⟩|⟨q,(rfl|rfl),(q4|⟨q4,q5⟩|⟨q4,q5,q6⟩|⟨q4,q5,q6,q7⟩)⟩
  ·
   have cq:((l0.length:Int) !=(l1.length:Int))=true:=bne_iff_ne.mpr (by omega)
   clear q
   go_enter Try.func8,Try.ntmps8
   go_wp2
   go_ret2
   exact ⟨_,rfl,Kd.R_nil _ _ _ _ _,below_alloc (Below.refl _ _) _⟩
  all_goals
   have cq:((l0.length:Int) !=(l1.length:Int))=false:=bne_eq_false_iff_eq.mpr (by omega)
   clear q
   go_enter Try.func8,Try.ntmps8
   go_wp2
   go_ret2
   exact ⟨_,rfl,Kd.R_nil _ _ _ _ _,below_alloc (Below.refl _ _) _⟩
 ·
  rw [if_neg hbad] at h
  have hg:l0.length=l1.length∧(a3=0∨a3=1)∧ ¬ a4 < 1∧ ¬ a4 > 1024∧ ¬ a5 < 2∧ ¬ a5 > 4:=by
   unfold place_Slots.bad at hbad
   omega
  clear hbad
  obtain ⟨q,q2,q4,q5,q6,q7⟩:=hg
  have cq:((l0.length:Int) !=(l1.length:Int))=false:=bne_eq_false_iff_eq.mpr (by omega)
  clear q
  obtain ⟨⟨b1,b2,b3,b4,b5,b6,b7,b8,b9⟩,hb,h⟩:=Option.bind_eq_some_iff.mp h
  have HBG:=Aside0.mk hb
  have HH:=Aside0.mk h
  clear hb h
  rcases q2 with rfl|rfl
  all_goals
   go_enter Try.func8,Try.ntmps8
   go_upto_region 4 with (go_at_call 17;refine (place_begin.calls _ _ l0 _ _ l1 a2_0 a2_1 a2_2 a2_3 a2_4 _ b1 b2 b3 b4 b5 b6 b7 b8 b9 _ (Kd.C_alloc HR0.out _) HC0.out (Kd.C_alloc HR1.out _) HC1.out HBG.out).mono ?_;rintro e w2 ⟨v5,v6,rfl,h5,h6,hb2⟩;obtain ⟨A5,c5,rfl,k5,r5⟩:=Kd.R_reads h5;obtain ⟨A6,c6,rfl,k6,r6⟩:=Kd.R_reads h6;have n1_:=Aside0.mk r5;have n2_:=Aside0.mk k5;have n3_:=Aside0.mk r6;have n4_:=Aside0.mk k6;have n5_:=Aside0.mk (below_step (below_alloc (Below.refl w.heap.size w) _) hb2);clear h5 h6 hb2 r5 k5 r6 k6)
   cases b9 with
   | false =>
    have h:=HH.out
    rw [if_neg (by decide)] at h
    obtain ⟨rfl,rfl⟩:=Prod.mk.inj (Option.some.inj h)
    clear h HH HBG
    go_wp2
    go_ret2
    exact ⟨_,rfl,Kd.R_nil _ _ _ _ _,below_alloc n5_.out _⟩
   | true =>
    have h:=HH.out
    rw [if_pos rfl] at h
    obtain ⟨t,ht,h⟩:=Option.bind_eq_some_iff.mp h
    have HT:=Aside0.mk ht
    clear HH HBG ht
    go_upto_region 7 with (go_at_call 18;refine (place_laid_text.calls k b1 b2 b3 b4 b5 _ _ b6 _ _ b7 b8 _ t _ (Kd.C_alloc n1_.out _) n2_.out (Kd.C_alloc n3_.out _) n4_.out HT.out).mono ?_;rintro e w3 ⟨v7,rfl,h7,hb3⟩;obtain ⟨A7,c7,rfl,k7,r7⟩:=Kd.R_reads h7;have m1_:=Aside0.mk r7;have m2_:=Aside0.mk k7;have m3_:=Aside0.mk (below_step (below_alloc n5_.out _) hb3);clear h7 hb3 r7 k7)
    clear n1_ n2_ n3_ n4_ n5_ HT
    unfold place_Slots.lay at h
    obtain ⟨ml,hml⟩: ∃ ml:Nat,ml=min t.length a4.toNat:=⟨_,rfl⟩
    rw [← hml] at h
    obtain ⟨mv,hmv⟩: ∃ mv:Int,mv=(ml:Int):=⟨_,rfl⟩
    have hmm1:(if a4 < (t.length:Int) then a4 else (t.length:Int))=mv:=by rw [hmv,hml];split <;> omega
    obtain ⟨fr,hfr⟩: ∃ fr:Int,fr=a4 - (ml:Int):=⟨_,rfl⟩
    rw [← hfr] at h
    have hf0:0≤fr:=by omega
    have hf1:fr < 1000000:=by omega
    have hw1:wrap64 (a4 - (ml:Int))=fr:=by rw [← hfr];unfold wrap64;omega
    have hw2:IntKind.i64.wrap (a4 - (ml:Int))=fr:=by rw [← hfr,IntKind.wrap_i64];omega
    obtain ⟨hf,hhf⟩: ∃ hf:Int,hf=fr / 2:=⟨_,rfl⟩
    have hd1:fr.tdiv 2=hf:=by rw [hhf,Int.tdiv_eq_ediv_of_nonneg hf0]
    have hd2:fr / 2=hf:=hhf.symm
    have hd3:IntKind.i64.wrap hf=hf:=by rw [IntKind.wrap_i64];omega
    have hd4:wrap64 hf=hf:=by unfold wrap64;omega
    obtain ⟨lf,hlf⟩: ∃ lf:Int,lf=place_Slots.left a5 fr:=⟨_,rfl⟩
    rw [← hlf] at h
    obtain ⟨wA,wB,u1,u2,u3,u4⟩:=place_Slots.maps w3 fr hf a5 hf0 hf1 (by omega) (by omega) (by omega)
    rw [show (if a5=3 then fr else if a5=4 then hf else 0)=lf by rw [hlf,hhf];rfl] at u3
    have hl0:0≤lf∧lf≤fr:=by rw [hlf];unfold place_Slots.left;split <;> (try split) <;> omega
    obtain ⟨rr,hrr⟩: ∃ rr:Int,rr=fr - lf:=⟨_,rfl⟩
    rw [← hrr] at h
    have hw3:wrap64 (fr - lf)=rr:=by rw [← hrr];unfold wrap64;omega
    have hw4:IntKind.i64.wrap (fr - lf)=rr:=by rw [← hrr,IntKind.wrap_i64];omega
    obtain ⟨pl,hpl,h⟩:=Option.bind_eq_some_iff.mp h
    obtain ⟨pr,hpr,h⟩:=Option.bind_eq_some_iff.mp h
    obtain ⟨rs,hrs,h⟩:=Option.bind_eq_some_iff.mp h
    obtain ⟨rfl,rfl⟩:=Prod.mk.inj (Option.some.inj h)
    obtain ⟨tx,htx⟩: ∃ tx,tx=t.take ml:=⟨_,rfl⟩
    rw [← htx] at hrs
    have hxl:tx.length=ml:=by rw [htx,List.length_take];omega
    obtain ⟨i0,hi0,_,hsz,_⟩:=info_parts info42
    have hcut: ∀ W:World,(Instr.slice 27 (.slice A7 t.length c7) none (some (.int .i64 mv)) none).run Try.prog W= .ok (.slice A7 ml c7) W:=by
     have h1:=cut_to (P:=Try.prog) 27 42 .i64 Try.underlying27 hi0 A7 t.length c7 mv (by omega) (by omega) m2_.out
     rwa [show mv.toNat=ml by omega] at h1
    have hmk:= @run_makeMap Try.prog
    have HPL:=Aside0.mk hpl
    have HPR:=Aside0.mk hpr
    have HRS:=Aside0.mk hrs
    have HCX:=Aside0.mk (show Kd.C k42 wB A7 ml tx by
     have:=Kd.C_take (m:=ml) (Kd.C_below m1_.out u4) (by omega)
     rwa [← htx,hxl] at this)
    have HCK:=Aside0.mk (show ml≤c7 by have:=m2_.out;omega)
    have HXL:=Aside0.mk hxl
    have HB4:=Aside0.mk (below_step m3_.out u4)
    clear h hpl hpr hrs htx hxl m1_ m2_ m3_ u4 hmv hml hfr hhf hlf hrr hl0 hi0 hsz
    go_upto_region 10 with (fail)
    go_wp2_with (first|((with_reducible refine gate_callee (f:=20) rfl ?_);refine goesL_ (some 79) rfl rfl Try.func20 (by kernel_rfl) rfl #[.int .i64 lf] rfl (by (try simp only [List.map_toArray,List.map_cons,List.map_nil]);first|done|rfl) ?_;(with_reducible refine (place_pads.calls lf pl _ HPL.out).mono ?_);rintro e5 w5 ⟨v8,rfl,h8,hb5⟩;refine ⟨_,rfl,?_⟩;obtain ⟨A8,c8,rfl,k8,r8⟩:=Kd.R_reads h8;have p1_:=Aside0.mk r8;have p2_:=Aside0.mk k8;have p3_:=Aside0.mk (Kd.C_below HCX.out hb5);have p4_:=Aside0.mk (below_step HB4.out hb5);clear h8 hb5 r8 k8)|((with_reducible refine gate_callee (f:=20) rfl ?_);refine goesL_ (some 84) rfl rfl Try.func20 (by kernel_rfl) rfl #[.int .i64 rr] rfl (by (try simp only [List.map_toArray,List.map_cons,List.map_nil]);first|done|rfl) ?_;(with_reducible refine (place_pads.calls rr pr _ HPR.out).mono ?_);rintro e6 w6 ⟨v9,rfl,h9,hb6⟩;refine ⟨_,rfl,?_⟩;obtain ⟨A9,c9,rfl,k9,r9⟩:=Kd.R_reads h9;have q1_:=Aside0.mk r9;have q2_:=Aside0.mk k9;have q3_:=Aside0.mk (Kd.C_below p3_.out hb6);have q4_:=Aside0.mk (below_step p4_.out hb6);have q5_:=Aside0.mk (Kd.C_below p1_.out hb6);clear h9 hb6 r9 k9)|((with_reducible refine gate_callee (f:=19) rfl ?_);refine goesL_ (some 86) rfl rfl Try.func19 (by kernel_rfl) rfl #[.slice (some ⟨w6.heap.size,0,none⟩) 3 3] rfl (by (try simp only [List.map_toArray,List.map_cons,List.map_nil]);first|done|rfl) ?_;(with_reducible refine (place_Slots.concat w6.heap.size pl tx pr rs _ ?side1 HRS.out).mono ?_);(case side1=>exact place_Slots.three _ w6.heap.size 27 A8 A7 A9 c8 c7 c9 pl tx pr (by rw [HXL.out];exact blk_new w6 _) p2_.out (by rw [HXL.out];exact HCK.out) q2_.out (Kd.C_alloc q5_.out _) (by rw [HXL.out];exact Kd.C_alloc q3_.out _) (Kd.C_alloc q1_.out _));rintro e7 w7 ⟨v10,rfl,h10,hb7⟩;refine ⟨_,rfl,?_⟩;have s1_:=Aside0.mk (Kd.R_lower h10 (below_alloc q4_.out _).size);have s2_:=Aside0.mk (below_step (below_alloc q4_.out _) hb7);clear h10 hb7))
    go_ret2
    exact ⟨_,rfl,s1_.out,s2_.out⟩
end
/-! ### parquetryref02_Same:function 12 -/
def parquetryref02_Same.l0:Nat→List Int→List Int→Int→Option (Bool)
 | 0,_,_,_=>none
 | k+1,x0,x1,x5=>if x5 < (x0.length:Int) then (if 0≤x5 then (if x5 < (x1.length:Int) then (if (rd x0 x5)=(rd x1 x5) then (parquetryref02_Same.l0 k x0 x1 (wrap64 (x5+1))) else (some false)) else (none)) else (none)) else (some true)
def parquetryref02_Same.f (k:Nat) (l0:List Int) (l1:List Int):Option (Bool):=if (l0.length:Int)=(l1.length:Int) then (parquetryref02_Same.l0 k l0 l1 0) else (some false)
theorem parquetryref02_Same.mono_l: ∀ k,(∀ y0 y1 y2,LeO (parquetryref02_Same.l0 k y0 y1 y2) (parquetryref02_Same.l0 (k+1) y0 y1 y2))
 | 0=>fun _ _ _ r h=>by simp [parquetryref02_Same.l0] at h
 | k+1=>by
  have ih0:=parquetryref02_Same.mono_l k
  ·
   intro y0 y1 y2
   unfold parquetryref02_Same.l0
   repeat' first
   | (with_reducible exact ih0 _ _ _)
   | (with_reducible exact LeO.refl _)
   | (with_reducible exact LeO.none _)
   | (with_reducible refine LeO.ite ?_ ?_)
   | (with_reducible refine LeO.bind ?_ (fun _=>?_))
   | exact ih0 _ _ _
   | exact LeO.none _
   | refine LeO.ite ?_ ?_
   | refine LeO.bind ?_ (fun _=>?_)
theorem parquetryref02_Same.mono: ∀ a0 a1 k,LeO (parquetryref02_Same.f k a0 a1) (parquetryref02_Same.f (k+1) a0 a1):=by
 intro a0 a1 k
 have ih0:=parquetryref02_Same.mono_l k
 unfold parquetryref02_Same.f
 repeat' first
   | (with_reducible exact ih0 _ _ _)
   | (with_reducible exact LeO.refl _)
   | (with_reducible exact LeO.none _)
   | (with_reducible refine LeO.ite ?_ ?_)
   | (with_reducible refine LeO.bind ?_ (fun _=>?_))
   | exact ih0 _ _ _
   | exact LeO.none _
   | refine LeO.ite ?_ ?_
   | refine LeO.bind ?_ (fun _=>?_)
set_option maxHeartbeats 8000000 in
set_option maxRecDepth 100000 in
theorem parquetryref02_Same.calls (k:Nat) (A0:Option Addr) (c0:Nat) (l0:List Int) (A1:Option Addr) (c1:Nat) (l1:List Int) (r:Bool) (w:World) (hr0:Kd.C (Kd.int .i64) w A0 l0.length l0) (hc0:l0.length≤c0) (hr1:Kd.C (Kd.int .i64) w A1 l1.length l1) (hc1:l1.length≤c1) (h:parquetryref02_Same.f k l0 l1=some r) :
  Calls Try.prog 12 #[.slice A0 l0.length c0,.slice A1 l1.length c1] w fun e w'=>e= .returned (.bool r)∧Drawn0 w w':=by
 have HR0:=Aside0.mk hr0
 have HC0:=Aside0.mk hc0
 clear hr0 hc0
 have HR1:=Aside0.mk hr1
 have HC1:=Aside0.mk hc1
 clear hr1 hc1
 have H:(if (l0.length:Int)=(l1.length:Int) then (parquetryref02_Same.l0 k l0 l1 0) else (some false))=some r:=h
 clear h
 by_cases c3:(l0.length:Int)=(l1.length:Int)
 ·
  rw [if_pos c3] at H
  have c3b0:((l0.length:Int)==(l1.length:Int))=true:=beq_iff_eq.mpr c3
  have c3b1:((l0.length:Int) !=(l1.length:Int))=false:=bne_eq_false_iff_eq.mpr c3
  have c3b2:(l0.length==l1.length)=true:=by first|simpa using c3|(simp at c3 ⊢;omega)
  clear c3
  have H':=Aside0.mk H
  clear H
  go_enter Try.func12,Try.ntmps12
  go_wp2
  repeat (go_quiet (fail);try go_wp2)
  go_loopg [5] k (fun kq v5 w'=> ∃ (x5_1:Int),v5= .int .i64 x5_1∧Aside0 (parquetryref02_Same.l0 kq l0 l1 x5_1=some r)∧Aside0 (kq≤k)∧Drawn0 w w')
  case atStart=>exact ⟨(0),(by first|rfl|(simp;done)|(simp [*];done)),H',⟨Nat.le_refl _⟩,by repeat (first|exact Drawn0.refl _|apply Drawn0.step)⟩
  case round =>
   clear H'
   try clear c1
   try clear p2
   try clear c3
   try clear c3b0
   try clear c3b1
   try clear c3b2
   obtain ⟨x5_1,rfl,HA,HK1,⟨m1,rfl⟩⟩:=hrel
   cases gk with
   | zero=>exact absurd HA.out (by simp [parquetryref02_Same.l0])
   | succ k1 =>
    have H:=HA.out
    clear HA
    simp only [parquetryref02_Same.l0] at H
    by_cases c4:x5_1 < (l0.length:Int)
    ·
     rw [if_pos c4] at H
     have c4b0:decide (x5_1 < (l0.length:Int))=true:=decide_eq_true c4
     clear c4
     by_cases c5:0≤x5_1
     ·
      rw [if_pos c5] at H
      have c5b0:decide (0≤x5_1)=true:=decide_eq_true c5
      clear c5
      by_cases c6:x5_1 < (l1.length:Int)
      ·
       rw [if_pos c6] at H
       have c6b0:decide (x5_1 < (l1.length:Int))=true:=decide_eq_true c6
       clear c6
       by_cases c7:(rd l0 x5_1)=(rd l1 x5_1)
       ·
        rw [if_pos c7] at H
        have c7b0:((rd l0 x5_1)==(rd l1 x5_1))=true:=beq_iff_eq.mpr c7
        have c7b1:((rd l0 x5_1) !=(rd l1 x5_1))=false:=bne_eq_false_iff_eq.mpr c7
        clear c7
        have H':=Aside0.mk H
        clear H
        have p221:0≤(x5_1:Int):=of_decide_eq_true (by first|(with_reducible assumption)|assumption)
        have q221:x5_1 < (l0.length:Int):=of_decide_eq_true (by first|(with_reducible assumption)|assumption)
        obtain ⟨ad221,e221,hx221_0⟩:=Kd.at_int HR0.out x5_1 p221 q221
        cases e221
        replace p221:=eq_true p221
        replace q221:=eq_true q221
        have p222:0≤(x5_1:Int):=of_decide_eq_true (by first|(with_reducible assumption)|assumption)
        have q222:x5_1 < (l1.length:Int):=of_decide_eq_true (by first|(with_reducible assumption)|assumption)
        obtain ⟨ad222,e222,hx222_0⟩:=Kd.at_int HR1.out x5_1 p222 q222
        cases e222
        replace p222:=eq_true p222
        replace q222:=eq_true q222
        go_wp2
        repeat (go_quiet (fail);try go_wp2)
        go_roundg k1
        case measure=>have:=HK1.out;omega
        case rel=>exact ⟨(wrap64 (x5_1+1)),(by first|rfl|(simp;done)|(simp [*];done)),H',⟨by have:=HK1.out;omega⟩,by repeat (first|exact Drawn0.refl _|apply Drawn0.step)⟩
       ·
        rw [if_neg c7] at H
        have c7b0:((rd l0 x5_1)==(rd l1 x5_1))=false:=beq_eq_false_iff_ne.mpr c7
        have c7b1:((rd l0 x5_1) !=(rd l1 x5_1))=true:=bne_iff_ne.mpr c7
        obtain rfl:=Option.some.inj H
        have p221:0≤(x5_1:Int):=of_decide_eq_true (by first|(with_reducible assumption)|assumption)
        have q221:x5_1 < (l0.length:Int):=of_decide_eq_true (by first|(with_reducible assumption)|assumption)
        obtain ⟨ad221,e221,hx221_0⟩:=Kd.at_int HR0.out x5_1 p221 q221
        cases e221
        replace p221:=eq_true p221
        replace q221:=eq_true q221
        have p222:0≤(x5_1:Int):=of_decide_eq_true (by first|(with_reducible assumption)|assumption)
        have q222:x5_1 < (l1.length:Int):=of_decide_eq_true (by first|(with_reducible assumption)|assumption)
        obtain ⟨ad222,e222,hx222_0⟩:=Kd.at_int HR1.out x5_1 p222 q222
        cases e222
        replace p222:=eq_true p222
        replace q222:=eq_true q222
        go_wp2
        repeat (go_quiet (fail);try go_wp2)
        go_ret
        exact ⟨by first|rfl|(simp;done)|(simp [*];done),by repeat (first|exact Drawn0.refl _|apply Drawn0.step)⟩
      ·
       rw [if_neg c6] at H
       exact absurd H (by simp)
     ·
      rw [if_neg c5] at H
      exact absurd H (by simp)
    ·
     rw [if_neg c4] at H
     have c4b0:decide (x5_1 < (l0.length:Int))=false:=decide_eq_false c4
     clear c4
     obtain rfl:=Option.some.inj H
     go_wp2
     repeat (go_quiet (fail);try go_wp2)
     go_ret
     exact ⟨by first|rfl|(simp;done)|(simp [*];done),by repeat (first|exact Drawn0.refl _|apply Drawn0.step)⟩
 ·
  rw [if_neg c3] at H
  have c3b0:((l0.length:Int)==(l1.length:Int))=false:=beq_eq_false_iff_ne.mpr c3
  have c3b1:((l0.length:Int) !=(l1.length:Int))=true:=bne_iff_ne.mpr c3
  have c3b2:(l0.length==l1.length)=false:=by first|simpa using c3|(simp at c3 ⊢;omega)
  obtain rfl:=Option.some.inj H
  go_enter Try.func12,Try.ntmps12
  go_wp2
  repeat (go_quiet (fail);try go_wp2)
  go_ret
  exact ⟨by first|rfl|(simp;done)|(simp [*];done),by repeat (first|exact Drawn0.refl _|apply Drawn0.step)⟩
end Go.Proofs.Yteoaegigjlhamaa.PC19
