/- PlaceSlots: the slots of a line, or which error, are the document's (the pure statement over the printed Lean functions). Conditions: those of the statement. -/
import Derived.Test.YteoaegigjlhamaaHD19
import Derived.Test.YteoaegigjlhamaaHK19
import Derived.Test.YteoaegigjlhamaaHN19
import Derived.Test.YteoaegigjlhamaaHZ19
import Derived.Test.YteoaegigjlhamaaPC19x13
import Derived.Test.YteoaegigjlhamaaPC19x14
namespace Go.Proofs.Yteoaegigjlhamaa.Pure
open Go.RowKit Go.Proofs.Yteoaegigjlhamaa.PC19 Go.Proofs.YteoaegigjlhamaaW.PrintWords Go.Proofs.YteoaegigjlhamaaW.PrintLast Go.Proofs.YteoaegigjlhamaaW.PrintMore Go.Proofs.YteoaegigjlhamaaH
set_option linter.unusedVariables false
set_option linter.unusedSimpArgs false
theorem refSlots_ev (l0:List Rn) (l1:List Int) (fr tt sh hd dt para w al:Int) (cs:List Cl) (hcs:Ev (fun k=>q06_Of.f k l0) cs) (hC:Chn l0 cs 0 l0.length) (hl:l0.length < 100000) :
    Ev (fun k=>q19_Slots.f k l0 l1 fr tt sh hd dt para w al) (if place_Slots.bad l0.length l1.length para w al then ([],1) else if 0≤fr∧fr≤sh∧sh≤tt∧tt≤(cs.length:Int) then (laid (txt l0 l1 cs fr tt sh dt para) w al,0) else ([],4)):=by
  have bad:Ev (fun k=>q19_Slots.j0 k l0 l1 para w al true fr tt sh hd dt) (([]:List Sl),1):=by
    refine Ev.succ ?_
    simp only [q19_Slots.j0]
    exact Ev.ifp trivial (Ev.now _)
  have out:Ev (fun k=>q19_Slots.j1 k l0 l1 para w al cs true fr tt sh hd dt) (([]:List Sl),4):=by
    refine Ev.succ ?_
    simp only [q19_Slots.j1]
    exact Ev.ifp trivial (Ev.now _)
  unfold q19_Slots.f
  by_cases hb:place_Slots.bad l0.length l1.length para w al
  · rw [if_pos hb]
    unfold place_Slots.bad at hb
    by_cases h1:(l0.length:Int)=(l1.length:Int)
    · refine Ev.ifp h1 ?_
      by_cases h2:para < 0
      · exact Ev.ifp h2 bad
      refine Ev.ifn h2 ?_
      by_cases h3:para > 1
      · exact Ev.ifp h3 bad
      refine Ev.ifn h3 ?_
      by_cases h4:w < 1
      · exact Ev.ifp h4 bad
      refine Ev.ifn h4 ?_
      by_cases h5:w > 1024
      · exact Ev.ifp h5 bad
      refine Ev.ifn h5 ?_
      by_cases h6:al < 2
      · exact Ev.ifp h6 bad
      refine Ev.ifn h6 ?_
      rw [decide_eq_true (show al > 4 by omega)]
      exact bad
    · exact Ev.ifn h1 bad
  rw [if_neg hb]
  unfold place_Slots.bad at hb
  have h1:l1.length=l0.length:=by omega
  refine Ev.ifp (by omega) (Ev.ifn (by omega) (Ev.ifn (by omega) (Ev.ifn (by omega) (Ev.ifn (by omega) (Ev.ifn (by omega) ?_)))))
  rw [decide_eq_false (show ¬ al > 4 by omega)]
  refine Ev.succ ?_
  simp only [q19_Slots.j0]
  refine Ev.ifn (by decide) (Ev.bind hcs ?_)
  by_cases hh:0≤fr∧fr≤sh∧sh≤tt∧tt≤(cs.length:Int)
  · rw [if_pos hh]
    refine Ev.ifn (by omega) (Ev.ifn (by omega) (Ev.ifn (by omega) (Ev.succ ?_)))
    simp only [q19_Slots.j1]
    have hsl:=sen_len l0 cs hC fr sh
    have hsw:=sen_wide l0 l1 cs hC fr tt sh hh hl h1
    have hvl:(senL l0 l1 cs fr tt sh para).length=(sen cs fr sh).length:=List.length_map _
    have hse:=refSeen_ev l0 l1 cs hC fr tt sh hd dt para hh hl h1
    have htx:=refText_ev (sen cs fr sh) (senL l0 l1 cs fr tt sh para) (by omega) hvl (fun c hc=>by
      have:=hsw c hc
      omega) dt para (by omega)
    have hte:=text_ev l0 l1 cs hC fr tt sh hd dt para hh hl h1
    have hlen:(txt l0 l1 cs fr tt sh dt para).length < 1000000:=by
      unfold txt
      have h9: ∀ o:List Int,(row (sen cs fr sh) (senL l0 l1 cs fr tt sh para) o).length≤2 * o.length:=by
        intro o
        induction o with
        | nil=>exact Nat.le_refl _
        | cons a r ih =>
          rw [row_cons,List.length_append,cel_len,List.length_cons]
          have:(clA (sen cs fr sh) a).f4≤2:=by
            by_cases ha:a.toNat < (sen cs fr sh).length
            · have:clA (sen cs fr sh) a ∈ sen cs fr sh:=by
                unfold clA rd_T40
                rw [List.getD_eq_getElem?_getD,List.getElem?_eq_getElem ha]
                exact List.getElem_mem ha
              exact (hsw _ this).2
            · unfold clA rd_T40
              rw [List.getD_eq_getElem?_getD,List.getElem?_eq_none (by omega)]
              decide
          omega
      have h8:=h9 (ord (senL l0 l1 cs fr tt sh para))
      rw [ord_len,hvl] at h8
      unfold fin
      split
      · split
        · simp only [List.length_cons];omega
        · simp only [List.length_append,List.length_cons,List.length_nil];omega
      · omega
    refine Ev.ifn (by rw [decide_eq_false (by omega)];decide) (Ev.bind hse (Ev.bind htx ?_))
    exact Ev.bind (refPad_ev (txt l0 l1 cs fr tt sh dt para) hlen w al (by omega) (by omega)) (Ev.now _)
  · rw [if_neg hh]
    by_cases h2:fr < 0
    · exact Ev.ifp h2 out
    refine Ev.ifn h2 ?_
    by_cases h3:sh < fr
    · exact Ev.ifp h3 out
    refine Ev.ifn h3 ?_
    by_cases h4:tt < sh
    · exact Ev.ifp h4 out
    refine Ev.ifn h4 ?_
    rw [decide_eq_true (show tt > (cs.length:Int) by omega)]
    exact out
theorem sameS_ev (xs:List Sl) (hl:xs.length < 1000000000):Ev (fun k=>q19_Same.f k xs xs) true:=by
  have l0: ∀ (n i:Nat),i+n=xs.length→Ev (fun k=>q19_Same.l0 k xs xs (i:Int)) true:=by
    intro n
    induction n with
    | zero =>
      intro i hi
      refine Ev.succ ?_
      simp only [q19_Same.l0]
      exact Ev.ifn (by omega) (Ev.now _)
    | succ n ih =>
      intro i hi
      have:=ih (i+1) (by omega)
      rw [show ((i+1:Nat):Int)=(i:Int)+1 by omega] at this
      refine Ev.succ ?_
      simp only [q19_Same.l0]
      rw [w64 (by omega) (by omega)]
      exact Ev.ifp (by omega) (Ev.ifp (by omega) (Ev.ifp (by omega) (Ev.ifn (same_ne _) this)))
  unfold q19_Same.f
  exact Ev.ifp rfl (l0 xs.length 0 (by omega))
theorem sameI_ev (xs:List Int) (hl:xs.length < 1000000000):Ev (fun k=>q02_Same.f k xs xs) true:=by
  have l0: ∀ (n i:Nat),i+n=xs.length→Ev (fun k=>q02_Same.l0 k xs xs (i:Int)) true:=by
    intro n
    induction n with
    | zero =>
      intro i hi
      refine Ev.succ ?_
      simp only [q02_Same.l0]
      exact Ev.ifn (by omega) (Ev.now _)
    | succ n ih =>
      intro i hi
      have:=ih (i+1) (by omega)
      rw [show ((i+1:Nat):Int)=(i:Int)+1 by omega] at this
      refine Ev.succ ?_
      simp only [q02_Same.l0]
      rw [w64 (by omega) (by omega)]
      exact Ev.ifp (by omega) (Ev.ifp (by omega) (Ev.ifp (by omega) (Ev.ifp trivial this)))
  unfold q02_Same.f
  exact Ev.ifp rfl (l0 xs.length 0 (by omega))
theorem PlaceSlots:y_PlaceSlots.Pure:=by
  intro l0 l1 fr tt sh hd dt para w al hm0 hs0 hw0 hm1 hs1 hw1 q1 q2 q3 q4 q5 q6 q7 q8
  refine Ev.ex ?_
  have aw:Ev (fun k=>y_PlaceSlots.j0 k l0 l1 para w al true fr tt sh hd dt) true:=by
    refine Ev.succ ?_
    simp only [y_PlaceSlots.j0]
    exact Ev.ifp trivial (Ev.bind awake_ev (Ev.now _))
  unfold y_PlaceSlots.f
  by_cases h:(l0.length:Int) > 120
  · exact Ev.ifp h aw
  refine Ev.ifn h ?_
  by_cases h2:(l1.length:Int) > 120
  · rw [decide_eq_true h2]
    exact aw
  rw [decide_eq_false h2]
  have hok: ∀ r ∈ l0,okR r:=fun r hr=>by
    obtain ⟨a,b,c⟩:=hw0 r hr
    exact ⟨wf_i64 a,wf_i64 b,wf_i64 c⟩
  obtain ⟨cs,hcl,hC⟩:=of_ex l0 hok (by omega)
  have hce:cs=C6.cls l0:=by
    have:=C6.of_eq l0 (fun r hr=>hok r hr) (by omega)
    rw [hcl] at this
    exact Option.some.inj this
  have s1:=slots_ev l0 l1 fr tt sh hd dt para w al cs hcl hC (by omega)
  have s2:=refSlots_ev l0 l1 fr tt sh hd dt para w al cs (by rw [hce];exact C6.refOf_ev l0 (by omega)) hC (by omega)
  have hlen:(if place_Slots.bad l0.length l1.length para w al then (([]:List Sl),(1:Int)) else if 0≤fr∧fr≤sh∧sh≤tt∧tt≤(cs.length:Int) then (laid (txt l0 l1 cs fr tt sh dt para) w al,0) else ([],4)).1.length < 1000000000:=by
    by_cases hb:place_Slots.bad l0.length l1.length para w al
    · rw [if_pos hb];decide
    rw [if_neg hb]
    unfold place_Slots.bad at hb
    split
    · have:=laid_len (txt l0 l1 cs fr tt sh dt para) w al (by omega)
      show (laid (txt l0 l1 cs fr tt sh dt para) w al).length < 1000000000
      omega
    · decide
  generalize (if place_Slots.bad l0.length l1.length para w al then (([]:List Sl),(1:Int)) else if 0≤fr∧fr≤sh∧sh≤tt∧tt≤(cs.length:Int) then (laid (txt l0 l1 cs fr tt sh dt para) w al,0) else ([],4))=V at *
  refine Ev.succ ?_
  simp only [y_PlaceSlots.j0]
  refine Ev.ifn (by decide) (Ev.bindc rfl (Ev.ifp (by simp only [List.length_nil];omega) (Ev.bindc rfl (Ev.bindc rfl (Ev.ifp (by simp only [List.length_nil];omega) (Ev.bindc rfl ?_))))))
  rw [List.nil_append,List.nil_append]
  refine Ev.bind s1 (Ev.bind s2 (Ev.ifp rfl (Ev.bind (sameS_ev V.1 hlen) (Ev.ifp rfl (Ev.bind (C6.sameR_ev l0 (by omega)) (Ev.ifp rfl (Ev.bind (sameI_ev l1 (by omega)) (Ev.ifp rfl (Ev.bind awake_ev (Ev.now _))))))))))
end Go.Proofs.Yteoaegigjlhamaa.Pure
