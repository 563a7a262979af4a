/- PlaceOnce: where there is room each cluster that is seen has its slots, side by side; nothing else is text; dots stand once, just if they are to (the pure statement over the printed Lean functions). Conditions: those of the statement. -/
import Derived.Test.YteoaegigjlhamaaHE19
import Derived.Test.YteoaegigjlhamaaHZ19
import Derived.Test.YteoaegigjlhamaaPC19x21
namespace Go.Proofs.Yteoaegigjlhamaa.Pure
open Go.RowKit Go.Proofs.Yteoaegigjlhamaa.PC19 Go.Proofs.YteoaegigjlhamaaW.PrintWords Go.Proofs.YteoaegigjlhamaaW.PrintLast Go.Proofs.YteoaegigjlhamaaW.PrintMore Go.Proofs.YteoaegigjlhamaaH
set_option linter.unusedVariables false
set_option linter.unusedSimpArgs false
theorem cel_get (c:Cl) (code:Int): ∀ (n p k:Nat),k < n→(cel c code p n)[k]?=some ⟨4,0,0,c.f0,((p+k:Nat):Int),code⟩
  | 0,p,k,h=>by omega
  | n+1,p,0,h=>rfl
  | n+1,p,k+1,h=>by
    unfold cel
    rw [List.getElem?_cons_succ,cel_get c code n (p+1) k (by omega),show p+1+k=p+(k+1) by omega]
theorem mid_cons (cs:List Cl) (i:Nat) (sh:Int) (h:(i:Int) < sh) (hn:sh≤(cs.length:Int)):mid cs (i:Int) sh=clA cs (i:Int)::mid cs ((i+1:Nat):Int) sh:=by
  unfold mid
  rw [Int.toNat_natCast,Int.toNat_natCast,List.drop_eq_getElem_cons (by rw [List.length_take];omega),List.getElem_take,clA_get cs i (by omega)]
theorem mid_end (cs:List Cl) (i:Nat) (sh:Int) (h:sh≤(i:Int)):mid cs (i:Int) sh=[]:=by
  unfold mid
  rw [Int.toNat_natCast,List.drop_eq_nil_of_le (by rw [List.length_take];omega)]
section
variable (s : List Sl) (cs : List Cl) (fr tt sh hd dt : Int) (hs : s.length < 100000) (hn : sh ≤ (cs.length : Int)) (hcs : cs.length < 100000) (hw : ∀ i : Nat, fr ≤ (i : Int) → (i : Int) < sh → 0 ≤ (clA cs (i : Int)).f4 ∧ (clA cs (i : Int)).f4 ≤ 2)
def Spot (s:List Sl) (c:Cl):Prop:= ∃ P Q code,s=P++(cel c code 0 c.f4.toNat++Q)∧(∀ x ∈ P,¬ hit c.f0 x)∧ ∀ x ∈ Q,¬ hit c.f0 x
variable (hsp : ∀ i : Nat, fr ≤ (i : Int) → (i : Int) < sh → 0 < (clA cs (i : Int)).f4 → Spot s (clA cs (i : Int)))
include hs hn hcs hw hsp
theorem once_l3 (dots:Int) (hd1:((dots==1)==(dt==1))=true) (hd2:dots≤1): ∀ (n i:Nat) (text:Int),fr≤(i:Int)→(i:Int)≤sh→(i:Int)+n=sh→text=(sw (mid cs (i:Int) sh):Int)→text < 1000000 →
    Ev (fun k=>parquetrylaw19_PlaceOnce.l3 k s cs text dots (i:Int) fr tt sh hd dt) true
  | 0,i,text,h1,h2,h3,ht,hb=>by
    rw [mid_end cs i sh (by omega)] at ht
    refine Ev.succ ?_
    simp only [parquetrylaw19_PlaceOnce.l3]
    exact Ev.ifn (by omega) (Ev.ifp ht (Ev.ifp hd1 (Ev.ifp hd2 (Ev.bind awake_ev (Ev.now _)))))
  | n+1,i,text,h1,h2,h3,ht,hb=>by
    rw [mid_cons cs i sh (by omega) hn,sw_cons] at ht
    obtain ⟨c,hc⟩: ∃ c,c=clA cs (i:Int):=⟨_,rfl⟩
    have hc':rd_T40 cs (i:Int)=c:=hc.symm
    obtain ⟨w0,w1⟩:=hw i h1 (by omega)
    have hspc:=hsp i h1 (by omega)
    rw [← hc] at ht w0 w1 hspc
    have next:Ev (fun k=>parquetrylaw19_PlaceOnce.l3 k s cs (wrap64 (text - c.f4)) dots (wrap64 ((i:Int)+1)) fr tt sh hd dt) true:=by
      rw [w64 (by omega) (by omega),w64 (by omega) (by omega),show (i:Int)+1=((i+1:Nat):Int) by omega]
      exact once_l3 dots hd1 hd2 n (i+1) (text - c.f4) (by omega) (by omega) (by omega) (by omega) (by omega)
    refine Ev.succ ?_
    simp only [parquetrylaw19_PlaceOnce.l3]
    refine Ev.ifp (by omega) ?_
    by_cases hz:0 < c.f4
    · obtain ⟨P,Q,code,hsE,hP,hQ⟩:=hspc hz
      obtain ⟨m,hm⟩:=Int.eq_ofNat_of_zero_le w0
      have hlen:s.length=P.length+(m+Q.length):=by rw [hsE,List.length_append,List.length_append,cel_len,hm,Int.toNat_natCast]
      have l5: ∀ (q j:Nat),1≤j→j+q=m→Ev (fun k=>parquetrylaw19_PlaceOnce.l5 k s cs text dots (i:Int) (P.length:Int) (j:Int) fr tt sh hd dt) true:=by
        intro q
        induction q with
        | zero =>
          intro j hj1 hj2
          refine Ev.succ ?_
          simp only [parquetrylaw19_PlaceOnce.l5]
          rw [hc']
          exact Ev.ifp (by omega) (Ev.ifp (by omega) (Ev.ifn (by omega) next))
        | succ q ih =>
          intro j hj1 hj2
          have hx: ∀ u:Nat,u < m→slA s ((P.length+u:Nat):Int)=⟨4,0,0,c.f0,(u:Int),code⟩:=fun u hu=>by
            refine slA_getq _ _ _ ?_
            rw [hsE,List.getElem?_append_right (by omega),show P.length+u - P.length=u by omega,List.getElem?_append_left (by rw [cel_len,hm,Int.toNat_natCast];exact hu),cel_get _ _ _ _ _ (by rw [hm,Int.toNat_natCast];exact hu),Nat.zero_add]
          have h1':rd_T42 s ((P.length:Int)+(j:Int))=⟨4,0,0,c.f0,(j:Int),code⟩:=by
            rw [show (P.length:Int)+(j:Int)=((P.length+j:Nat):Int) by omega]
            exact hx j (by omega)
          have h0':rd_T42 s (P.length:Int)=⟨4,0,0,c.f0,((0:Nat):Int),code⟩:=hx 0 (by omega)
          have:=ih (j+1) (by omega) (by omega)
          rw [show ((j+1:Nat):Int)=(j:Int)+1 by omega] at this
          refine Ev.succ ?_
          simp only [parquetrylaw19_PlaceOnce.l5]
          rw [hc',w64 (x:=(P.length:Int)+(j:Int)) (by omega) (by omega),h1',h0',w64 (x:=(j:Int)+1) (by omega) (by omega)]
          exact Ev.ifp (by omega) (Ev.ifp (by omega) (Ev.ifp (by omega) (Ev.ifp (by omega) (Ev.ifp (by omega) (Ev.ifp rfl (Ev.ifp rfl (Ev.ifp rfl (Ev.ifp (by omega) (Ev.ifp (by omega) (Ev.ifp rfl this))))))))))
      have last:Ev (fun k=>parquetrylaw19_PlaceOnce.l4 k s cs text dots (i:Int) (P.length:Int) (s.length:Int) fr tt sh hd dt) true:=by
        refine Ev.succ ?_
        simp only [parquetrylaw19_PlaceOnce.l4]
        refine Ev.ifn (by omega) (Ev.succ ?_)
        simp only [parquetrylaw19_PlaceOnce.j7]
        rw [hc',w64 (x:=(P.length:Int)+c.f4) (by omega) (by omega)]
        refine Ev.ifn (by decide) (Ev.ifp (by omega) (Ev.ifp (by omega) (Ev.ifp (by omega) (Ev.ifn (by omega) (Ev.ifp (by omega) (Ev.succ ?_))))))
        simp only [parquetrylaw19_PlaceOnce.j9]
        refine Ev.ifn (by rw [decide_eq_false (by omega)];decide) ?_
        exact l5 (m - 1) 1 (by omega) (by omega)
      have miss: ∀ (seg pre post:List Sl) (a:Int),s=pre++(seg++post)→(∀ x ∈ seg,¬ hit c.f0 x)→Ev (fun k=>parquetrylaw19_PlaceOnce.l4 k s cs text dots (i:Int) a ((pre.length+seg.length:Nat):Int) fr tt sh hd dt) true →
          Ev (fun k=>parquetrylaw19_PlaceOnce.l4 k s cs text dots (i:Int) a (pre.length:Int) fr tt sh hd dt) true:=by
        intro seg
        induction seg with
        | nil=>intro pre post a _ _ h;exact h
        | cons x seg ih =>
          intro pre post a he hh h
          have hl:s.length=pre.length+(seg.length+1+post.length):=by rw [he];simp;omega
          have hx:rd_T42 s (pre.length:Int)=x:=by rw [he];exact slA_mid pre x _ _ rfl
          have hnx:=hh x (by simp)
          have:=ih (pre++[x]) post a (by rw [he];simp) (fun y hy=>hh y (by simp [hy])) (by
            rw [show (pre++[x]).length+seg.length=pre.length+(x::seg).length by simp;omega]
            exact h)
          rw [show (((pre++[x]).length:Nat):Int)=(pre.length:Int)+1 by simp] at this
          have j8:Ev (fun k=>parquetrylaw19_PlaceOnce.j8 k s cs text dots (i:Int) a (pre.length:Int) false fr tt sh hd dt) true:=by
            refine Ev.succ ?_
            simp only [parquetrylaw19_PlaceOnce.j8]
            rw [w64 (by omega) (by omega)]
            exact Ev.ifn (by decide) this
          refine Ev.succ ?_
          simp only [parquetrylaw19_PlaceOnce.l4]
          rw [hc']
          refine Ev.ifp (by omega) (Ev.ifp (by omega) (Ev.ifp (by omega) (Ev.succ ?_)))
          simp only [parquetrylaw19_PlaceOnce.j7]
          rw [hc',hx]
          refine Ev.ifp (decide_eq_true hz) (Ev.ifp (by omega) (Ev.ifp (by omega) ?_))
          unfold hit at hnx
          by_cases g1:x.f0=4
          · refine Ev.ifp g1 (Ev.ifp (by omega) (Ev.ifp (by omega) ?_))
            by_cases g2:x.f3=c.f0
            · refine Ev.ifp g2 ?_
              rw [beq_eq_false_iff_ne.2 (show x.f4≠0 from fun g3=>hnx ⟨g1,g2,g3⟩)]
              exact j8
            · exact Ev.ifn g2 j8
          · exact Ev.ifn g1 j8
      have e0:s=[]++(P++(cel c code 0 c.f4.toNat++Q)):=hsE
      have:=miss P [] (cel c code 0 c.f4.toNat++Q) (-1) e0 hP ?_
      · exact this
      ·
        obtain ⟨q,hq⟩: ∃ q,m=q+1:=⟨m - 1,by omega⟩
        have hcel:cel c code 0 c.f4.toNat=(⟨4,0,0,c.f0,((0:Nat):Int),code⟩:Sl)::cel c code 1 q:=by
          rw [hm,Int.toNat_natCast,hq]
          rfl
        have hx:rd_T42 s (P.length:Int)=⟨4,0,0,c.f0,((0:Nat):Int),code⟩:=by
          rw [hsE,hcel]
          exact slA_mid P _ _ _ rfl
        have e1:s=(P++[(⟨4,0,0,c.f0,((0:Nat):Int),code⟩:Sl)])++((cel c code 1 q++Q)++[]):=by
          rw [hsE,hcel]
          simp
        have h2:=miss (cel c code 1 q++Q) (P++[(⟨4,0,0,c.f0,((0:Nat):Int),code⟩:Sl)]) [] (P.length:Int) e1 (fun x hx hh=>by
          rcases List.mem_append.1 hx with hx|hx
          · have:=cel_part c code q 1 x hx
            have:=hh.2.2
            omega
          · exact hQ x hx hh) (by
          rw [show (P++[(⟨4,0,0,c.f0,((0:Nat):Int),code⟩:Sl)]).length+(cel c code 1 q++Q).length=s.length by
            rw [hlen,List.length_append,List.length_append,cel_len];simp;omega]
          exact last)
        rw [show ([]:List Sl).length+P.length=P.length by simp]
        refine Ev.succ ?_
        simp only [parquetrylaw19_PlaceOnce.l4]
        rw [hc']
        refine Ev.ifp (by omega) (Ev.ifp (by omega) (Ev.ifp (by omega) (Ev.succ ?_)))
        simp only [parquetrylaw19_PlaceOnce.j7]
        rw [hc',hx]
        refine Ev.ifp (decide_eq_true hz) (Ev.ifp (by omega) (Ev.ifp (by omega) (Ev.ifp rfl (Ev.ifp (by omega) (Ev.ifp (by omega) (Ev.ifp rfl (Ev.succ ?_)))))))
        simp only [parquetrylaw19_PlaceOnce.j8]
        refine Ev.ifp rfl (Ev.ifn (by omega) ?_)
        rw [w64 (by omega) (by omega),show (P.length:Int)+1=(((P++[(⟨4,0,0,c.f0,((0:Nat):Int),code⟩:Sl)]).length:Nat):Int) by simp]
        exact h2
    ·
      have j9:Ev (fun k=>parquetrylaw19_PlaceOnce.j9 k s cs text dots (i:Int) (-1) false fr tt sh hd dt) true:=by
        refine Ev.succ ?_
        simp only [parquetrylaw19_PlaceOnce.j9]
        refine Ev.ifn (by decide) (Ev.succ ?_)
        simp only [parquetrylaw19_PlaceOnce.l5]
        rw [hc']
        exact Ev.ifp (by omega) (Ev.ifp (by omega) (Ev.ifn (by omega) next))
      have j7:Ev (fun k=>parquetrylaw19_PlaceOnce.j7 k s cs text dots (i:Int) (-1) 0 false fr tt sh hd dt) true:=by
        refine Ev.succ ?_
        simp only [parquetrylaw19_PlaceOnce.j7]
        rw [hc']
        exact Ev.ifn (by decide) (Ev.ifp (by omega) (Ev.ifp (by omega) (Ev.ifn (by omega) (Ev.ifn (by omega) j9))))
      refine Ev.succ ?_
      simp only [parquetrylaw19_PlaceOnce.l4]
      by_cases hs0:(0:Int) < (s.length:Int)
      · refine Ev.ifp hs0 (Ev.ifp (by omega) (Ev.ifp (by omega) ?_))
        rw [hc',decide_eq_false (show ¬ c.f4 > 0 from hz)]
        exact j7
      · exact Ev.ifn hs0 j7
theorem once_l2 (hf0:0≤fr) (hk: ∀ x ∈ s,x.f0=4∨x.f0=3∨x.f0=2) (hfs:fr≤sh) (h4:cnt 4 s=sw (mid cs fr sh)) (hd1:(((cnt 3 s:Int)==1)==(dt==1))=true) (hd2:(cnt 3 s:Int)≤1): ∀ (t pre:List Sl),s=pre++t →
    Ev (fun k=>parquetrylaw19_PlaceOnce.l2 k s cs (cnt 4 pre:Int) (cnt 3 pre:Int) (pre.length:Int) fr tt sh hd dt) true
  | [],pre,h=>by
    have hl:s.length=pre.length:=by rw [h];simp
    rw [List.append_nil] at h
    have hc4:cnt 4 s≤s.length:=List.countP_le_length
    refine Ev.succ ?_
    simp only [parquetrylaw19_PlaceOnce.l2]
    refine Ev.ifn (by omega) ?_
    rw [← h]
    have:=once_l3 s cs fr tt sh hd dt hs hn hcs hw hsp (cnt 3 s:Int) hd1 hd2 (sh - fr).toNat fr.toNat (cnt 4 s:Int) (by omega) (by omega) (by omega) (by rw [h4,Int.toNat_of_nonneg hf0]) (by omega)
    rw [Int.toNat_of_nonneg hf0] at this
    exact this
  | x::t,pre,h=>by
    have hl:s.length=pre.length+(t.length+1):=by rw [h];simp
    have hx:rd_T42 s (pre.length:Int)=x:=by rw [h];exact slA_mid pre x t _ rfl
    have ih:=once_l2 hf0 hk hfs h4 hd1 hd2 t (pre++[x]) (by rw [h];simp)
    have c4:cnt 4 pre≤pre.length:=List.countP_le_length
    have c3:cnt 3 pre≤pre.length:=List.countP_le_length
    have one: ∀ k:Int,cnt k [x]=if x.f0=k then 1 else 0:=fun k=>by
      unfold cnt
      by_cases hk:x.f0=k
      · rw [if_pos hk,List.countP_cons_of_pos (by simpa using hk)];rfl
      · rw [if_neg hk,List.countP_cons_of_neg (by simpa using hk)];rfl
    rw [cnt_app,cnt_app,one,one,show (((pre++[x]).length:Nat):Int)=(pre.length:Int)+1 by simp] at ih
    refine Ev.succ ?_
    simp only [parquetrylaw19_PlaceOnce.l2]
    rw [hx,w64 (x:=(pre.length:Int)+1) (by omega) (by omega),w64 (x:=(cnt 4 pre:Int)+1) (by omega) (by omega),w64 (x:=(cnt 3 pre:Int)+1) (by omega) (by omega)]
    refine Ev.ifp (by omega) (Ev.ifp (by omega) ?_)
    rcases hk x (by rw [h];simp) with g|g|g
    · refine Ev.ifp g ?_
      rw [if_pos g,if_neg (by omega)] at ih
      exact ih
    · refine Ev.ifn (by omega) (Ev.ifp g ?_)
      rw [if_neg (by omega),if_pos g] at ih
      exact ih
    · refine Ev.ifn (by omega) (Ev.ifn (by omega) (Ev.ifp g ?_))
      rw [if_neg (by omega),if_neg (by omega)] at ih
      exact ih
end
theorem once_l1 (s:List Sl) (cs:List Cl) (fr tt sh hd dt:Int) (hf0:0≤fr) (hn:sh≤(cs.length:Int)) (hcs:cs.length < 100000) (hw: ∀ i:Nat,fr≤(i:Int)→(i:Int) < sh→0≤(clA cs (i:Int)).f4∧(clA cs (i:Int)).f4≤2) (R:Int) (hR: -1000000≤R∧R≤1000000)
    (h2:0≤R→Ev (fun k=>parquetrylaw19_PlaceOnce.l2 k s cs 0 0 0 fr tt sh hd dt) true): ∀ (n i:Nat) (room:Int),fr≤(i:Int)→(i:Int)+n=sh→room=R+(sw (mid cs (i:Int) sh):Int)→room≤1000000 →
    Ev (fun k=>parquetrylaw19_PlaceOnce.l1 k s cs room (i:Int) fr tt sh hd dt) true
  | 0,i,room,h1,h3,hr,hb=>by
    rw [mid_end cs i sh (by omega)] at hr
    have hr':room=R:=by rw [hr];simp [sw]
    refine Ev.succ ?_
    simp only [parquetrylaw19_PlaceOnce.l1]
    refine Ev.ifn (by omega) ?_
    by_cases h0:room < 0
    · exact Ev.ifp h0 (Ev.bind awake_ev (Ev.now _))
    · exact Ev.ifn h0 (h2 (by omega))
  | n+1,i,room,h1,h3,hr,hb=>by
    rw [mid_cons cs i sh (by omega) hn,sw_cons] at hr
    obtain ⟨w0,w1⟩:=hw i h1 (by omega)
    refine Ev.succ ?_
    simp only [parquetrylaw19_PlaceOnce.l1]
    refine Ev.ifp (by omega) (Ev.ifp (by omega) (Ev.ifp (by omega) ?_))
    have hc':(rd_T40 cs (i:Int)).f4=(clA cs (i:Int)).f4:=rfl
    rw [hc',w64 (x:=(i:Int)+1) (by omega) (by omega),w64 (x:=room - (clA cs (i:Int)).f4) (by omega) (by omega),show (i:Int)+1=((i+1:Nat):Int) by omega]
    exact once_l1 s cs fr tt sh hd dt hf0 hn hcs hw R hR h2 n (i+1) (room - (clA cs (i:Int)).f4) (by omega) (by omega) (by omega) (by omega)
theorem sw_le: ∀ (l:List Cl),(∀ c ∈ l,c.f4≤2)→sw l≤2 * l.length
  | [],h=>Nat.le_refl _
  | c::r,h=>by
    rw [sw_cons,List.length_cons]
    have:=sw_le r (fun x hx=>h x (by simp [hx]))
    have:=h c (by simp)
    omega
theorem once_in (l0:List Rn) (l1:List Int) (cs:List Cl) (hC:Chn l0 cs 0 l0.length) (fr tt sh hd dt para w al:Int) (hH:Has cs.length fr tt sh) (hl:l0.length≤200) (h1:l1.length=l0.length) (h0:1≤w) (hw1:w≤1024)
    (hr: ∀ i:Nat,i+1 < l0.length→(rnA l0 (i:Int)).f0 < (rnA l0 ((i+1:Nat):Int)).f0) :
    Ev (fun k=>parquetrylaw19_PlaceOnce.j2 k (laid (txt l0 l1 cs fr tt sh dt para) w al) cs (if dt=1 then w - 1 else w) fr tt sh hd dt) true:=by
  have hH':=hH
  obtain ⟨q0,q1,q2,q3⟩:=hH
  have hle:=hC.le
  have hml:=mid_len cs fr sh
  have hin:=mid_in l0 l1 cs hC fr tt sh para hH' (by omega) h1
  have hsw:=sw_le (mid cs fr sh) (fun c hc=>(hin c hc).2.2.2.2.2.2)
  have hcw: ∀ i:Nat,fr≤(i:Int)→(i:Int) < sh→0≤(clA cs (i:Int)).f4∧(clA cs (i:Int)).f4≤2:=fun i i1 i2=>by
    obtain ⟨a,b,_,_,hA⟩:=hC.at i (by omega)
    exact ⟨hA.2.2.2.1,hA.2.2.2.2.1⟩
  have hsl:=laid_len (txt l0 l1 cs fr tt sh dt para) w al h0
  have hvl:(senL l0 l1 cs fr tt sh para).length=(sen cs fr sh).length:=List.length_map _
  have hrl:=row_ord (sen cs fr sh) (senL l0 l1 cs fr tt sh para) hvl
  have hss:sw (sen cs fr sh)=sw (mid cs fr sh):=sw_sen _
  rw [hss] at hrl
  have htk:=txt_tk l0 l1 cs fr tt sh dt para
  have h4r:=row_cnt4 (sen cs fr sh) (senL l0 l1 cs fr tt sh para) (ord (senL l0 l1 cs fr tt sh para))
  have h3r:=row_cnt3 (sen cs fr sh) (senL l0 l1 cs fr tt sh para) (ord (senL l0 l1 cs fr tt sh para))
  have hpw:(mid cs fr sh).Pairwise (fun a b=>a.f0 < b.f0):=by
    rw [List.pairwise_iff_getElem]
    intro i j hi hj hij
    rw [mid_at cs fr sh i q0 hi,mid_at cs fr sh j q0 hj,show fr+(i:Int)=((fr.toNat+i:Nat):Int) by omega,show fr+(j:Int)=((fr.toNat+j:Nat):Int) by omega]
    exact chn_rise l0 hr cs hC (fr.toNat+i) (fr.toNat+j) (by omega) (by omega)
  have hps:(sen cs fr sh).Pairwise (fun a b=>a.f0 < b.f0):=hpw.filter _
  have hdf: ∀ i j:Nat,i < (sen cs fr sh).length→j < (sen cs fr sh).length→i≠j→(clA (sen cs fr sh) (i:Int)).f0≠(clA (sen cs fr sh) (j:Int)).f0:=fun i j hi hj hij=>by
    rw [clA_get _ i hi,clA_get _ j hj]
    rw [List.pairwise_iff_getElem] at hps
    rcases Nat.lt_or_gt_of_ne hij with h|h
    · have:=hps i j hi hj h
      omega
    · have:=hps j i hj hi h
      omega
  have hspot: ∀ i:Nat,fr≤(i:Int)→(i:Int) < sh→0 < (clA cs (i:Int)).f4→Spot (row (sen cs fr sh) (senL l0 l1 cs fr tt sh para) (ord (senL l0 l1 cs fr tt sh para))) (clA cs (i:Int)):=fun i i1 i2 i3=>by
    have hmem:clA cs (i:Int) ∈ sen cs fr sh:=by
      refine List.mem_filter.2 ⟨?_,decide_eq_true i3⟩
      have hj:i - fr.toNat < (mid cs fr sh).length:=by omega
      have:=mid_at cs fr sh (i - fr.toNat) q0 hj
      rw [show fr+((i - fr.toNat:Nat):Int)=(i:Int) by omega] at this
      rw [← this]
      exact List.getElem_mem hj
    obtain ⟨j,hj,he⟩:=List.getElem_of_mem hmem
    obtain ⟨P,Q,code,e1,e2,e3⟩:=row_spot (sen cs fr sh) (senL l0 l1 cs fr tt sh para) hvl hdf j hj
    rw [clA_get _ j hj,he] at e1 e2 e3
    exact ⟨P,Q,code,e1,e2,e3⟩
  refine Ev.succ ?_
  simp only [parquetrylaw19_PlaceOnce.j2]
  have main:=once_l1 (laid (txt l0 l1 cs fr tt sh dt para) w al) cs fr tt sh hd dt q0 (by omega) (by omega) hcw ((if dt=1 then w - 1 else w) - (sw (mid cs fr sh):Int)) (by split <;> omega) (fun hR=>by
    have hT:(txt l0 l1 cs fr tt sh dt para).length≤w.toNat:=by
      unfold txt
      rw [fin_len,hrl]
      split at hR
      · rename_i hd1;rw [if_pos hd1];omega
      · rename_i hd1;rw [if_neg hd1];omega
    have hcnt: ∀ k:Int,k≠2→cnt k (laid (txt l0 l1 cs fr tt sh dt para) w al)=cnt k (txt l0 l1 cs fr tt sh dt para):=fun k hk=>by
      unfold laid
      rw [cnt_app,cnt_app,cnt_pads k hk,cnt_pads k hk,List.take_of_length_le hT]
      omega
    have hlaid: ∃ a b,laid (txt l0 l1 cs fr tt sh dt para) w al=List.replicate a pad++(txt l0 l1 cs fr tt sh dt para++List.replicate b pad):=by
      unfold laid
      rw [List.take_of_length_le hT]
      exact ⟨_,_,rfl⟩
    obtain ⟨a,b,hab⟩:=hlaid
    have h4:cnt 4 (laid (txt l0 l1 cs fr tt sh dt para) w al)=sw (mid cs fr sh):=by
      rw [hcnt 4 (by decide)]
      unfold txt
      rw [fin_cnt,h4r,hrl,if_neg (by omega)]
      rfl
    have h3:cnt 3 (laid (txt l0 l1 cs fr tt sh dt para) w al)=if dt=1 then 1 else 0:=by
      rw [hcnt 3 (by decide)]
      unfold txt
      rw [fin_cnt,h3r,Nat.zero_add]
      simp
    refine once_l2 _ cs fr tt sh hd dt (by omega) (by omega) (by omega) hcw (fun i i1 i2 i3=>?_) q0 (fun x hx=>?_) q1 h4 ?_ ?_ _ [] rfl
    · obtain ⟨P,Q,code,e1,e2,e3⟩:=hspot i i1 i2 i3
      have nop: ∀ x,x=pad∨x=dot→ ¬ hit (clA cs (i:Int)).f0 x:=fun x hx hh=>by
        rcases hx with rfl|rfl
        · exact absurd hh.1 (by decide)
        · exact absurd hh.1 (by decide)
      have nopads: ∀ n x,x ∈ List.replicate n pad→ ¬ hit (clA cs (i:Int)).f0 x:=fun n x hx=>nop x (.inl (List.eq_of_mem_replicate hx))
      rw [hab]
      unfold txt fin
      rw [e1]
      by_cases hd1:dt=1
      · rw [if_pos hd1]
        by_cases hp:para=1
        · rw [if_pos hp]
          refine ⟨List.replicate a pad++dot::P,Q++List.replicate b pad,code,by simp,fun x hx=>?_,fun x hx=>?_⟩
          · rcases List.mem_append.1 hx with hx|hx
            · exact nopads a x hx
            · rcases List.mem_cons.1 hx with hx|hx
              · exact nop x (.inr hx)
              · exact e2 x hx
          · rcases List.mem_append.1 hx with hx|hx
            · exact e3 x hx
            · exact nopads b x hx
        · rw [if_neg hp]
          refine ⟨List.replicate a pad++P,Q++([dot]++List.replicate b pad),code,by simp,fun x hx=>?_,fun x hx=>?_⟩
          · rcases List.mem_append.1 hx with hx|hx
            · exact nopads a x hx
            · exact e2 x hx
          · rcases List.mem_append.1 hx with hx|hx
            · exact e3 x hx
            · rcases List.mem_append.1 hx with hx|hx
              · exact nop x (.inr (List.mem_singleton.1 hx))
              · exact nopads b x hx
      · rw [if_neg hd1]
        refine ⟨List.replicate a pad++P,Q++List.replicate b pad,code,by simp,fun x hx=>?_,fun x hx=>?_⟩
        · rcases List.mem_append.1 hx with hx|hx
          · exact nopads a x hx
          · exact e2 x hx
        · rcases List.mem_append.1 hx with hx|hx
          · exact e3 x hx
          · exact nopads b x hx
    · rw [hab] at hx
      rcases List.mem_append.1 hx with hx|hx
      · rw [List.eq_of_mem_replicate hx]
        exact .inr (.inr rfl)
      · rcases List.mem_append.1 hx with hx|hx
        · rcases htk x hx with h|h
          · exact .inl h
          · exact .inr (.inl h)
        · rw [List.eq_of_mem_replicate hx]
          exact .inr (.inr rfl)
    · rw [h3]
      by_cases hd1:dt=1
      · rw [if_pos hd1,hd1];rfl
      · rw [if_neg hd1,beq_eq_false_iff_ne.2 hd1];rfl
    · rw [h3]
      split <;> omega) (sh - fr).toNat fr.toNat (if dt=1 then w - 1 else w) (by omega) (by omega) (by rw [Int.toNat_of_nonneg q0];omega) (by split <;> omega)
  rw [Int.toNat_of_nonneg q0] at main
  exact main
theorem PlaceOnce:parquetrylaw19_PlaceOnce.Pure:=by
  intro l0 l1 fr tt sh hd dt para w al hm0 hs0 hw0 hm1 hs1 hw1 q1 q2 q3 q4 q5 q6 q7 q8
  refine Ev.ex ?_
  unfold parquetrylaw19_PlaceOnce.f
  by_cases h:(l0.length:Int) > 200
  · exact Ev.ifp h (Ev.bind awake_ev (Ev.now _))
  refine Ev.ifn h ?_
  obtain ⟨cs,hcl,hC⟩:=of_ex l0 (fun r hr=>by
    obtain ⟨a,b,c⟩:=hw0 r hr
    exact ⟨wf_i64 a,wf_i64 b,wf_i64 c⟩) (by omega)
  have s2:=slots_ev l0 l1 fr tt sh hd dt para w al cs hcl hC (by omega)
  have key: ∀ (n i:Nat),1≤i→i+n=max 1 l0.length→(∀ j:Nat,j+1 < i→(rnA l0 (j:Int)).f0 < (rnA l0 ((j+1:Nat):Int)).f0)→Ev (fun k=>parquetrylaw19_PlaceOnce.l0 k l0 l1 para w al (i:Int) fr tt sh hd dt) true:=by
    intro n
    induction n with
    | zero =>
      intro i h1 h2 hr
      refine Ev.succ ?_
      simp only [parquetrylaw19_PlaceOnce.l0]
      refine Ev.ifn (by omega) (Ev.bind s2 ?_)
      by_cases hb:place_Slots.bad l0.length l1.length para w al
      · rw [if_pos hb]
        exact Ev.ifn (by decide) (Ev.ifp rfl (Ev.bind awake_ev (Ev.now _)))
      rw [if_neg hb]
      by_cases hh:0≤fr∧fr≤sh∧sh≤tt∧tt≤(cs.length:Int)
      · rw [if_pos hh]
        have hb':=hb
        unfold place_Slots.bad at hb'
        have hsl:=laid_len (txt l0 l1 cs fr tt sh dt para) w al (by omega)
        have hin:=once_in l0 l1 cs hC fr tt sh hd dt para w al hh (by omega) (by omega) (by omega) (by omega) (fun j hj=>hr j (by omega))
        refine Ev.ifp rfl (Ev.bindc hcl (Ev.ifp hsl (Ev.succ ?_)))
        simp only [parquetrylaw19_PlaceOnce.j1]
        refine Ev.ifn (by rw [decide_eq_false (by omega)];decide) ?_
        rw [w64 (x:=w - 1) (by omega) (by omega)]
        by_cases hd1:dt=1
        · rw [if_pos hd1] at hin
          exact Ev.ifp hd1 hin
        · rw [if_neg hd1] at hin
          exact Ev.ifn hd1 hin
      · rw [if_neg hh]
        exact Ev.ifn (by decide) (Ev.ifp rfl (Ev.bind awake_ev (Ev.now _)))
    | succ n ih =>
      intro i h1 h2 hr
      have ih':=ih (i+1) (by omega) (by omega)
      rw [show ((i+1:Nat):Int)=(i:Int)+1 by omega] at ih'
      refine Ev.succ ?_
      simp only [parquetrylaw19_PlaceOnce.l0]
      rw [w64 (x:=(i:Int) - 1) (by omega) (by omega),w64 (x:=(i:Int)+1) (by omega) (by omega)]
      refine Ev.ifp (by omega) (Ev.ifp (by omega) (Ev.ifp (by omega) (Ev.ifp (by omega) ?_)))
      by_cases hle:(rd_T36 l0 (i:Int)).f0≤(rd_T36 l0 ((i:Int) - 1)).f0
      · exact Ev.ifp hle (Ev.bind awake_ev (Ev.now _))
      · refine Ev.ifn hle (ih' (fun j hj=>?_))
        by_cases hji:j+1 < i
        · exact hr j hji
        · obtain rfl:i=j+1:=by omega
          rw [show (((j+1:Nat):Int)) - 1=(j:Int) by omega] at hle
          show (rd_T36 l0 (j:Int)).f0 < (rd_T36 l0 ((j+1:Nat):Int)).f0
          omega
  have:=key (max 1 l0.length - 1) 1 (Nat.le_refl _) (by omega) (fun j hj=>by omega)
  exact this
end Go.Proofs.Yteoaegigjlhamaa.Pure
