/- PlacePlain: where all levels are 0 the clusters that are seen stand in the text's order, by their own signs (the pure statement over the printed Lean functions). Conditions: those of the statement. -/
import Derived.Test.YteoaegigjlhamaaHD19
import Derived.Test.YteoaegigjlhamaaHZ19
import Derived.Test.YteoaegigjlhamaaPC19x17
namespace Go.Proofs.Yteoaegigjlhamaa.Pure
open Go.RowKit Go.Proofs.Yteoaegigjlhamaa.PC19 Go.Proofs.YteoaegigjlhamaaW.PrintWords Go.Proofs.YteoaegigjlhamaaW.PrintLast Go.Proofs.YteoaegigjlhamaaW.PrintMore Go.Proofs.YteoaegigjlhamaaH
set_option linter.unusedVariables false
set_option linter.unusedSimpArgs false
def flt:List Cl→List Sl
  | []=>[]
  | c::r=>cel c c.f5 0 c.f4.toNat++flt r
theorem flt_app: ∀ (a b:List Cl),flt (a++b)=flt a++flt b
  | [],b=>rfl
  | c::r,b=>by
    show cel c c.f5 0 c.f4.toNat++flt (r++b)=(cel c c.f5 0 c.f4.toNat++flt r)++flt b
    rw [flt_app r b,List.append_assoc]
theorem flt_sen: ∀ (l:List Cl),flt (l.filter fun c=>decide (0 < c.f4))=flt l
  | []=>rfl
  | c::r=>by
    by_cases h:0 < c.f4
    · rw [List.filter_cons_of_pos (by simpa using h)]
      show _++_=_++_
      rw [flt_sen r]
    · rw [List.filter_cons_of_neg (by simpa using h),flt_sen r]
      show _=cel c c.f5 0 c.f4.toNat++flt r
      rw [show c.f4.toNat=0 by omega]
      rfl
theorem row_flt (lv:List Int) (hlv: ∀ i,rd lv i=0) (l:List Cl): ∀ (t pre:List Cl),l=pre++t→row l lv (rg pre.length t.length)=flt t
  | [],pre,h=>rfl
  | c::t,pre,h=>by
    have hc:clA l (pre.length:Int)=c:=by rw [h];exact clA_mid pre c t
    have ih:=row_flt lv hlv l t (pre++[c]) (by rw [h];simp)
    rw [show (pre++[c]).length=pre.length+1 by simp] at ih
    show cel (clA l (pre.length:Int)) (SH (clA l (pre.length:Int)).f5 (rd lv (pre.length:Int))) 0 (clA l (pre.length:Int)).f4.toNat++row l lv (rg (pre.length+1) t.length)=cel c c.f5 0 c.f4.toNat++flt t
    rw [hc,hlv,ih]
    rfl
theorem rd_zeros (n:Nat) (i:Int):rd (List.replicate n 0) i=0:=by
  unfold rd
  rw [List.getD_eq_getElem?_getD,List.getElem?_replicate]
  split <;> rfl
theorem go_zero: ∀ (l:List (Rn × Int)),(∀ x ∈ l,x.2=0)→(bidi_Line.go l 0).1=List.replicate l.length 0
  | [],h=>rfl
  | x::r,h=>by
    have ih:=go_zero r (fun y hy=>h y (by simp [hy]))
    have hx:=h x (by simp)
    show (if _ then (0:Int) else x.2)::(bidi_Line.go r 0).1=_
    rw [ih,hx,List.length_cons,List.replicate_succ,ite_self]
theorem lvs_zero (l0:List Rn) (n:Nat) (cs:List Cl) (fr tt:Int): ∃ m,lvs l0 (List.replicate n 0) cs fr tt 0=List.replicate m 0:=by
  unfold lvs
  split
  · refine ⟨_,go_zero _ (fun x hx=>?_)⟩
    have h2:=(List.of_mem_zip hx).2
    unfold cutL at h2
    exact List.eq_of_mem_replicate (List.mem_of_mem_take (List.mem_of_mem_drop h2))
  · exact ⟨0,rfl⟩
theorem txt_plain (l0:List Rn) (n:Nat) (cs:List Cl) (fr tt sh:Int):txt l0 (List.replicate n 0) cs fr tt sh 0 0=flt (mid cs fr sh):=by
  obtain ⟨m,hm⟩:=lvs_zero l0 n cs fr tt
  have hL:senL l0 (List.replicate n 0) cs fr tt sh 0=List.replicate (sen cs fr sh).length 0:=by
    unfold senL
    rw [hm,List.eq_replicate_iff]
    refine ⟨List.length_map _,fun x hx=>?_⟩
    obtain ⟨c,_,rfl⟩:=List.mem_map.1 hx
    exact rd_zeros _ _
  unfold txt
  rw [hL,ord_zero]
  show row _ _ _=_
  have:=row_flt (List.replicate (sen cs fr sh).length 0) (rd_zeros _) (sen cs fr sh) (sen cs fr sh) [] rfl
  rw [show ([]:List Cl).length=0 from rfl] at this
  rw [this]
  unfold sen
  exact flt_sen _
theorem at_text (D R:List Sl) (x:Sl) (w q:Nat) (h:D.length < w):slA ((D++x::R).take w++List.replicate q pad) (D.length:Int)=x:=by
  refine slA_getq _ _ _ ?_
  rw [List.getElem?_append_left (by simp only [List.length_take,List.length_append,List.length_cons];omega),List.getElem?_take_of_lt h,List.getElem?_append_right (Nat.le_refl _),Nat.sub_self]
  rfl
theorem at_pad (T:List Sl) (w q i:Nat) (h:min T.length w≤i) (h2:i < min T.length w+q):slA (T.take w++List.replicate q pad) (i:Int)=pad:=by
  refine slA_getq _ _ _ ?_
  rw [List.getElem?_append_right (by rw [List.length_take];omega),List.length_take,List.getElem?_replicate,if_pos (by omega)]
theorem eq_no (x y:Sl) (h:x=y): ¬ (!(x.f0==y.f0) || (!(x.f1==y.f1) || (!(x.f2==y.f2) || (!(x.f3==y.f3) || (!(x.f4==y.f4) || (!(x.f5==y.f5)))))))=true:=by
  subst h
  exact same_ne x
section
variable (sh w : Int) (cs : List Cl) (T : List Sl) (q : Nat) (s : List Sl) (hs : s = T.take w.toNat ++ List.replicate q pad) (hq : min T.length w.toNat + q = w.toNat) (hw0 : 1 ≤ w) (hw1 : w ≤ 1024) (hsh0 : 0 ≤ sh) (hsh1 : sh ≤ 255) (hn : sh ≤ (cs.length : Int))
include hs hq hw0 hw1
theorem plain_l2: ∀ (n at_:Nat),(at_:Int)+n=w→min T.length w.toNat≤at_→Ev (fun k=>parquetrylaw19_PlacePlain.l2 k w s (at_:Int)) true
  | 0,a,h,h1=>by
    refine Ev.succ ?_
    simp only [parquetrylaw19_PlacePlain.l2]
    exact Ev.ifn (by omega) (Ev.bind awake_ev (Ev.now _))
  | n+1,a,h,h1=>by
    have ih:=plain_l2 n (a+1) (by omega) (by omega)
    rw [show ((a+1:Nat):Int)=(a:Int)+1 by omega] at ih
    have hp:slA s (a:Int)=pad:=by
      rw [hs]
      exact at_pad T w.toNat q a h1 (by omega)
    have hl:s.length=min w.toNat T.length+q:=by rw [hs];simp
    refine Ev.succ ?_
    simp only [parquetrylaw19_PlacePlain.l2]
    rw [w64 (x:=(a:Int)+1) (by omega) (by omega)]
    refine Ev.ifp (by omega) (Ev.ifp (by omega) (Ev.ifp (by omega) (Ev.ifn ?_ ih)))
    have hp':rd_T42 s (a:Int)=pad:=hp
    rw [hp']
    decide
include hsh0 hsh1 hn
theorem plain_l0 (M:List Cl) (fr:Nat) (hM: ∀ (i:Nat) (c:Cl),M[i]?=some c→clA cs ((fr+i:Nat):Int)=c∧((fr+i:Nat):Int) < sh) (hMl:((fr+M.length:Nat):Int)=sh) (hT:T=flt M) (hwd: ∀ c ∈ M,0≤c.f4∧c.f4≤2) :
    ∀ (t pre:List Cl) (at_:Nat),M=pre++t→at_=min (flt pre).length w.toNat→Ev (fun k=>parquetrylaw19_PlacePlain.l0 k sh w s cs (at_:Int) ((fr+pre.length:Nat):Int)) true
  | [],pre,a,h,ha=>by
    have hlm:M.length=pre.length:=by rw [h];simp
    refine Ev.succ ?_
    simp only [parquetrylaw19_PlacePlain.l0]
    rw [w64 (x:=sh) (by omega) (by omega)]
    refine Ev.ifn (by omega) ?_
    rw [List.append_nil] at h
    refine plain_l2 w T q s hs hq hw0 hw1 (w.toNat - a) a (by omega) ?_
    rw [ha,hT,h]
    exact Nat.le_refl _
  | c::t,pre,a,h,ha=>by
    have hlm:M.length=pre.length+(t.length+1):=by rw [h];simp
    obtain ⟨hc,hcs⟩:=hM pre.length c (by rw [h,List.getElem?_append_right (Nat.le_refl _),Nat.sub_self];rfl)
    obtain ⟨w0,w1⟩:=hwd c (by rw [h];simp)
    have ih:=plain_l0 M fr hM hMl hT hwd t (pre++[c])
    have hsp:flt (pre++[c])=flt pre++cel c c.f5 0 c.f4.toNat:=by rw [flt_app];simp [flt]
    have hTs:T=flt pre++(cel c c.f5 0 c.f4.toNat++flt t):=by rw [hT,h,flt_app];rfl
    have hsl:s.length=min w.toNat T.length+q:=by rw [hs];simp
    have next: ∀ b:Nat,b=min (flt (pre++[c])).length w.toNat→Ev (fun k=>parquetrylaw19_PlacePlain.l0 k sh w s cs (b:Int) (wrap64 (((fr+pre.length:Nat):Int)+1))) true:=fun b hb=>by
      rw [w64 (by omega) (by omega),show ((fr+pre.length:Nat):Int)+1=((fr+(pre++[c]).length:Nat):Int) by simp only [List.length_append,List.length_cons,List.length_nil];omega]
      exact ih b (by rw [h];simp) hb
    have l1: ∀ (n p:Nat) (D:List Sl) (b:Nat),(n:Int)+(p:Int)=c.f4→T=D++(cel c c.f5 p n++flt t)→(flt pre).length+p=D.length→b=min D.length w.toNat →
        Ev (fun k=>parquetrylaw19_PlacePlain.l1 k sh w s cs (b:Int) ((fr+pre.length:Nat):Int) (p:Int)) true:=by
      intro n
      induction n with
      | zero =>
        intro p D b hn hTd hD hb
        refine Ev.succ ?_
        simp only [parquetrylaw19_PlacePlain.l1]
        have hc':rd_T40 cs ((fr+pre.length:Nat):Int)=c:=hc
        rw [hc']
        refine Ev.ifp (by omega) (Ev.ifp (by omega) (Ev.ifn (by omega) (Ev.succ ?_)))
        simp only [parquetrylaw19_PlacePlain.j3]
        refine Ev.ifn (by decide) (next b ?_)
        rw [hsp,List.length_append,cel_len,hb,← hD]
        congr 1
        omega
      | succ n ihn =>
        intro p D b hn hTd hD hb
        refine Ev.succ ?_
        simp only [parquetrylaw19_PlacePlain.l1]
        have hc':rd_T40 cs ((fr+pre.length:Nat):Int)=c:=hc
        rw [hc']
        refine Ev.ifp (by omega) (Ev.ifp (by omega) (Ev.ifp (by omega) (Ev.succ ?_)))
        simp only [parquetrylaw19_PlacePlain.j3]
        rw [hc']
        by_cases hbw:(b:Int) < w
        · obtain rfl:b=D.length:=by omega
          have hx:slA s (D.length:Int)=⟨4,0,0,c.f0,(p:Int),c.f5⟩:=by
            rw [hs,hTd]
            exact at_text D _ _ _ _ (by omega)
          have hx':rd_T42 s (D.length:Int)=⟨4,0,0,c.f0,(p:Int),c.f5⟩:=hx
          have hTl:T.length=D.length+((cel c c.f5 p (n+1)).length+(flt t).length):=by rw [hTd];simp
          rw [cel_len] at hTl
          rw [hx',w64 (x:=(p:Int)+1) (by omega) (by omega),w64 (x:=(D.length:Int)+1) (by omega) (by omega)]
          refine Ev.ifp (decide_eq_true hbw) (Ev.ifp (by omega) (Ev.ifp (by omega) (Ev.ifp (by omega) (Ev.ifp (by omega) (Ev.ifn (by simp) ?_)))))
          have:=ihn (p+1) (D++[⟨4,0,0,c.f0,(p:Int),c.f5⟩]) (D.length+1) (by omega) (by rw [hTd];simp [cel]) (by simp;omega) (by simp;omega)
          rw [show ((p+1:Nat):Int)=(p:Int)+1 by omega,show ((D.length+1:Nat):Int)=(D.length:Int)+1 by omega] at this
          exact this
        · refine Ev.ifn (by rw [decide_eq_false hbw];decide) (next b ?_)
          rw [hsp,List.length_append,cel_len]
          omega
    refine Ev.succ ?_
    simp only [parquetrylaw19_PlacePlain.l0]
    rw [w64 (x:=sh) (by omega) (by omega)]
    refine Ev.ifp (by omega) ?_
    exact l1 c.f4.toNat 0 (flt pre) a (by omega) hTs rfl ha
end
theorem u8_of {x:Int} (h:(Lit.int .u8 x).wf=true):0≤x∧x≤255:=by
  have h':=h
  simp [Lit.wf,IntKind.min,IntKind.max,IntKind.bits,IntKind.signed] at h'
  omega
theorem PlacePlain:parquetrylaw19_PlacePlain.Pure:=by
  intro l0 fr sh tt w hm0 hs0 hw0 q1 q2 q3 q4
  have u1:=u8_of q1
  have u2:=u8_of q2
  have u3:=u8_of q3
  refine Ev.ex ?_
  unfold parquetrylaw19_PlacePlain.f
  by_cases h:(l0.length:Int) > 200
  · exact Ev.ifp h (Ev.bind awake_ev (Ev.now _))
  refine Ev.ifn h ?_
  obtain ⟨cs,hcl,hC⟩:=of_ex l0 (fun r hr=>by
    obtain ⟨a,b,c⟩:=hw0 r hr
    exact ⟨wf_i64 a,wf_i64 b,wf_i64 c⟩) (by omega)
  have hle:=hC.le
  rw [w64 (x:=fr) (by omega) (by omega),w64 (x:=tt) (by omega) (by omega),w64 (x:=sh) (by omega) (by omega),Int.toNat_natCast]
  have s2:=slots_ev l0 (List.replicate l0.length 0) fr tt sh 0 0 0 w 2 cs hcl hC (by omega)
  rw [txt_plain] at s2
  refine Ev.ifp (by omega) (Ev.ifp (by omega) ?_)
  by_cases hb:w < 1∨w > 1024
  · rw [if_pos (by unfold place_Slots.bad;omega)] at s2
    exact Ev.bind s2 (Ev.ifn (by decide) (Ev.bind awake_ev (Ev.now _)))
  rw [if_neg (by unfold place_Slots.bad;rw [List.length_replicate];omega)] at s2
  by_cases hh:0≤fr∧fr≤sh∧sh≤tt∧tt≤(cs.length:Int)
  · rw [if_pos hh] at s2
    have n2:=laid_len (flt (mid cs fr sh)) w 2 (by omega)
    refine Ev.bind s2 (Ev.ifp rfl (Ev.bindc hcl (Ev.ifn (by omega) (Ev.succ ?_))))
    simp only [parquetrylaw19_PlacePlain.j0]
    refine Ev.ifn (by rw [n2];simp) ?_
    rw [w64 (x:=fr) (by omega) (by omega)]
    have hml:=mid_len cs fr sh
    have hin:=mid_in l0 (List.replicate l0.length 0) cs hC fr tt sh 0 hh (by omega) List.length_replicate
    have:=plain_l0 sh w cs (flt (mid cs fr sh)) (w - ((min (flt (mid cs fr sh)).length w.toNat:Nat):Int)).toNat (laid (flt (mid cs fr sh)) w 2) (by
      unfold laid
      rw [show ∀ z,lft 2 z=0 from fun _=>rfl]
      simp) (by
      have:min (flt (mid cs fr sh)).length w.toNat≤w.toNat:=Nat.min_le_right _ _
      omega) (by omega) (by omega) (by omega) (by omega) (by omega) (mid cs fr sh) fr.toNat (fun i c hi=>by
        obtain ⟨hlt,he⟩:=List.getElem?_eq_some_iff.1 hi
        rw [mid_at cs fr sh i hh.1 hlt] at he
        rw [show ((fr.toNat+i:Nat):Int)=fr+(i:Int) by omega]
        exact ⟨he,by omega⟩) (by omega) rfl (fun c hc=>(hin c hc).2.2.2.2.2) (mid cs fr sh) [] 0 rfl (by simp [flt])
    rw [show ((fr.toNat+([]:List Cl).length:Nat):Int)=fr by simp only [List.length_nil];omega] at this
    exact this
  · rw [if_neg hh] at s2
    exact Ev.bind s2 (Ev.ifn (by decide) (Ev.bind awake_ev (Ev.now _)))
end Go.Proofs.Yteoaegigjlhamaa.Pure
