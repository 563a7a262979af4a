/- Chapter 19: what place.Slots tells, as one row of slots: pads, the text's slots in order, pads. Conditions: whole numbers of 64 bits; fewer than 100000 runes. -/
import Derived.Test.YteoaegigjlhamaaHA19
import Derived.Test.YteoaegigjlhamaaHB19
import Derived.Test.YteoaegigjlhamaaPC19x7
namespace Go.Proofs.Yteoaegigjlhamaa.PC19
open Go.RowKit Go.Proofs.YteoaegigjlhamaaW.PrintWords Go.Proofs.YteoaegigjlhamaaW.PrintLast Go.Proofs.YteoaegigjlhamaaW.PrintMore Go.Proofs.YteoaegigjlhamaaH
set_option linter.unusedVariables false
set_option linter.unusedSimpArgs false
/-! ### signs -/
def GL (c:Int):Int:=if (mirror_find.val c).1 > 0 then (mirror_find.val c).2.1 else c
theorem glyph_eq (c:Int):mirror_Glyph.f c=some (GL c):=by
  unfold mirror_Glyph.f mirror_find.f GL
  simp only [Option.bind_some]
  split <;> rfl
def SH (c v:Int):Int:=if (Go.bits .and .i64 v 1)=1 then GL c else c
theorem shown_eq (c v:Int):bidi_Shown.f c v=some (SH c v):=by
  unfold bidi_Shown.f SH
  rw [glyph_eq]
  split <;> rfl
/-! ### a line's text -/
def frs (cs:List Cl) (fr tt:Int):Int:=if fr < tt then (clA cs fr).f2 else 0
def cutL {α:Type} (l:List α) (cs:List Cl) (fr tt:Int):List α:=(l.take ((clA cs (tt - 1)).f3).toNat).drop ((clA cs fr).f2).toNat
def lvs (l0:List Rn) (l1:List Int) (cs:List Cl) (fr tt para:Int):List Int:=if fr < tt then (bidi_Line.go ((cutL l0 cs fr tt).zip (cutL l1 cs fr tt)) para).1 else []
def mid (cs:List Cl) (fr sh:Int):List Cl:=(cs.take sh.toNat).drop fr.toNat
def sen (cs:List Cl) (fr sh:Int):List Cl:=(mid cs fr sh).filter fun c=>decide (0 < c.f4)
def senL (l0:List Rn) (l1:List Int) (cs:List Cl) (fr tt sh para:Int):List Int:=(sen cs fr sh).map fun c=>rd (lvs l0 l1 cs fr tt para) (c.f2 - frs cs fr tt)
def cel (c:Cl) (code:Int):Nat→Nat→List Sl
  | _,0=>[]
  | p,n+1=>(⟨4,0,0,c.f0,(p:Int),code⟩:Sl)::cel c code (p+1) n
def row (lc:List Cl) (lv:List Int):List Int→List Sl
  | []=>[]
  | a::r=>cel (clA lc a) (SH (clA lc a).f5 (rd lv a)) 0 (clA lc a).f4.toNat++row lc lv r
def dot:Sl:=⟨3,0,0,0,0,0⟩
def pad:Sl:=⟨2,0,0,0,0,0⟩
def fin (dots para:Int) (t:List Sl):List Sl:=if dots=1 then (if para=1 then dot::t else t++[dot]) else t
def txt (l0:List Rn) (l1:List Int) (cs:List Cl) (fr tt sh dots para:Int):List Sl :=
  fin dots para (row (sen cs fr sh) (senL l0 l1 cs fr tt sh para) (ord (senL l0 l1 cs fr tt sh para)))
theorem cel_len (c:Cl) (code:Int): ∀ (n p:Nat),(cel c code p n).length=n
  | 0,p=>rfl
  | n+1,p=>by
    show (cel c code (p+1) n).length+1=_
    rw [cel_len]
theorem clA_get (l:List Cl) (i:Nat) (h:i < l.length):clA l (i:Int)=l[i]:=by
  unfold clA rd_T40
  rw [Int.toNat_natCast,List.getD_eq_getElem?_getD,List.getElem?_eq_getElem h]
  rfl
theorem clA_mem (l:List Cl) (i:Int) (h0:0≤i) (h:i < (l.length:Int)):clA l i ∈ l:=by
  obtain ⟨n,rfl⟩:=Int.eq_ofNat_of_zero_le h0
  rw [clA_get l n (by omega)]
  exact List.getElem_mem _
theorem clA_mid (pre:List Cl) (x:Cl) (r:List Cl):clA (pre++x::r) (pre.length:Int)=x:=by
  unfold clA rd_T40
  rw [Int.toNat_natCast,List.getD_eq_getElem?_getD,List.getElem?_append_right (Nat.le_refl _),Nat.sub_self]
  rfl
/-! ### place.laid.seen -/
theorem seen_l0 (fr tt sh hd dt:Int) (cs:List Cl) (lv:List Int) (f:Int) (M:List Cl) (hM:M.length < 1000000)
    (hin: ∀ c ∈ M,0 < c.f4→0≤c.f2 - f∧c.f2 - f < (lv.length:Int)∧c.f2 < 10000000∧0≤f∧f < 10000000): ∀ (t pre:List Cl) (oc:List Cl) (ol:List Int),M=pre++t→oc.length≤pre.length→ol.length≤pre.length →
    Ev (fun k=>place_laid_seen.l0 k oc ol M (M.length:Int) (pre.length:Int) fr tt sh hd dt cs lv f) (oc++t.filter (fun c=>decide (0 < c.f4)),ol++(t.filter (fun c=>decide (0 < c.f4))).map (fun c=>rd lv (c.f2 - f)))
  | [],pre,oc,ol,h,h1,h2=>by
    have hl:M.length=pre.length:=by rw [h];simp
    refine Ev.succ ?_
    simp only [place_laid_seen.l0]
    exact Ev.ifn (by omega) (Ev.val (Ev.now _) (by simp))
  | c::t,pre,oc,ol,h,h1,h2=>by
    have hl:M.length=pre.length+(t.length+1):=by rw [h];simp
    have hc:rd_T40 M (pre.length:Int)=c:=by rw [h];exact clA_mid pre c t
    have hm:c ∈ M:=by rw [h];simp
    have e:wrap64 ((pre.length:Int)+1)=((pre++[c]).length:Int):=by rw [w64 (by omega) (by omega)];simp
    refine Ev.succ ?_
    simp only [place_laid_seen.l0]
    rw [hc,e]
    refine Ev.ifp (by omega) (Ev.ifp (by omega) (Ev.ifp (by omega) ?_))
    by_cases hw:0 < c.f4
    · obtain ⟨q1,q2,q3,q4,q5⟩:=hin c hm hw
      rw [w64 (x:=c.f2 - f) (by omega) (by omega)]
      refine Ev.ifp hw (Ev.bindc rfl (Ev.ifp (by simp only [List.length_cons,List.length_nil];omega) (Ev.ifp q1 (Ev.ifp q2 (Ev.bindc rfl (Ev.ifp (by simp only [List.length_cons,List.length_nil];omega) ?_))))))
      refine Ev.val (seen_l0 fr tt sh hd dt cs lv f M hM hin t (pre++[c]) (oc++[c]) (ol++[rd lv (c.f2 - f)]) (by rw [h];simp) (by simp;omega) (by simp;omega)) ?_
      rw [List.filter_cons_of_pos (by simpa using hw)]
      simp
    · refine Ev.ifn hw ?_
      refine Ev.val (seen_l0 fr tt sh hd dt cs lv f M hM hin t (pre++[c]) oc ol (by rw [h];simp) (by simp;omega) (by simp;omega)) ?_
      rw [List.filter_cons_of_neg (by simpa using hw)]
/-! ### place.laid.text -/
section
variable (para fr tt sh hd dt : Int) (cs : List Cl) (lv : List Int) (f : Int) (lc : List Cl) (ls : List Int) (hs : ls.length = lc.length) (hw : ∀ c ∈ lc, 0 ≤ c.f4 ∧ c.f4 ≤ 2)
include hs hw
theorem text_l0 (o:List Int) (ho:o.length < 100000) (hin: ∀ x ∈ o,0≤x∧x < (lc.length:Int)): ∀ (t pre:List Int) (out:List Sl),o=pre++t→out.length≤2 * pre.length →
    Ev (fun k=>place_laid_text.l0 k para out lc ls o (o.length:Int) (pre.length:Int) fr tt sh hd dt cs lv f) (fin dt para (out++row lc ls t))
  | [],pre,out,h,h1=>by
    have hlen:o.length=pre.length:=by rw [h];simp
    refine Ev.succ ?_
    simp only [place_laid_text.l0]
    refine Ev.ifn (by omega) ?_
    unfold fin row
    rw [List.append_nil]
    by_cases hd:dt=1
    · refine Ev.ifp hd ?_
      rw [if_pos hd]
      by_cases hp:para=1
      · refine Ev.ifp hp ?_
        rw [if_pos hp]
        refine Ev.bindc (a:=[dot]++out) (if_pos ⟨rfl,rfl,by omega⟩) (Ev.now _)
      · refine Ev.ifn hp ?_
        rw [if_neg hp]
        exact Ev.ifp (by omega) (Ev.now _)
    · refine Ev.ifn hd ?_
      rw [if_neg hd]
      exact Ev.now _
  | a::t,pre,out,h,h1=>by
    have hlen:o.length=pre.length+(t.length+1):=by rw [h];simp
    have ha:rd o (pre.length:Int)=a:=by rw [h];exact rd_mid pre a t
    obtain ⟨a0,a1⟩:=hin a (by rw [h];simp)
    obtain ⟨w0,w1⟩:=hw _ (clA_mem lc a a0 a1)
    have e:wrap64 ((pre.length:Int)+1)=((pre++[a]).length:Int):=by rw [w64 (by omega) (by omega)];simp
    obtain ⟨c,hc⟩: ∃ c,c=clA lc a:=⟨_,rfl⟩
    rw [← hc] at w0 w1
    have l1: ∀ (n p:Nat) (x:List Sl),(n:Int)+(p:Int)=c.f4→x.length≤2 * pre.length+p→Ev (fun k=>place_laid_text.l1 k para x lc ls a o (o.length:Int) (pre.length:Int) c.f4 (p:Int) fr tt sh hd dt cs lv f c.f0 c.f1 c.f2 c.f3 c.f4 c.f5) (fin dt para (x++cel c (SH c.f5 (rd ls a)) p n++row lc ls t)):=by
      intro n
      induction n with
      | zero =>
        intro p x hn hx
        refine Ev.succ ?_
        simp only [place_laid_text.l1]
        refine Ev.ifn (by omega) ?_
        rw [e]
        refine Ev.val (text_l0 o ho hin t (pre++[a]) x (by rw [h];simp) (by simp only [List.length_append,List.length_cons,List.length_nil];omega)) ?_
        unfold cel
        rw [List.append_nil]
      | succ n ih =>
        intro p x hn hx
        refine Ev.succ ?_
        simp only [place_laid_text.l1]
        refine Ev.ifp (by omega) (Ev.ifp a0 (Ev.ifp (by omega) (Ev.bindc (shown_eq _ _) (Ev.ifp (by omega) ?_))))
        rw [w64 (x:=(p:Int)+1) (by omega) (by omega)]
        refine Ev.val (ih (p+1) (x++[(⟨4,0,0,c.f0,(p:Int),SH c.f5 (rd ls a)⟩:Sl)]) (by omega) (by simp only [List.length_append,List.length_cons,List.length_nil];omega)) ?_
        rw [List.append_assoc x]
        rfl
    refine Ev.succ ?_
    simp only [place_laid_text.l0]
    rw [ha]
    refine Ev.ifp (by omega) (Ev.ifp (by omega) (Ev.ifp (by omega) (Ev.ifp a0 (Ev.ifp a1 ?_))))
    have:=l1 c.f4.toNat 0 out (by omega) (by omega)
    rw [hc] at this
    refine Ev.val this ?_
    rw [List.append_assoc]
    rfl
end
/-! ### place.begin, place.Slots -/
def Has (n:Nat) (fr tt sh:Int):Prop:=0≤fr∧fr≤sh∧sh≤tt∧tt≤(n:Int)
theorem has_eq (n:Nat) (fr tt sh hd dt:Int):place_has.f fr tt sh hd dt (n:Int)=some (decide (0≤fr∧fr≤sh∧sh≤tt∧tt≤(n:Int))):=by
  unfold place_has.f
  by_cases h1:fr≥0
  · rw [if_pos h1]
    by_cases h2:fr≤sh
    · rw [if_pos h2]
      by_cases h3:sh≤tt
      · rw [if_pos h3]
        congr 1
        rw [decide_eq_decide]
        exact ⟨fun h=>⟨h1,h2,h3,h⟩,fun h=>h.2.2.2⟩
      · rw [if_neg h3,decide_eq_false (fun h=>h3 h.2.2.1)]
    · rw [if_neg h2,decide_eq_false (fun h=>h2 h.2.1)]
  · rw [if_neg h1,decide_eq_false (fun h=>h1 h.1)]
theorem go_len: ∀ (l:List (Rn × Int)) (p:Int),(bidi_Line.go l p).1.length=l.length
  | [],p=>rfl
  | x::r,p=>by
    show (bidi_Line.go r p).1.length+1=_
    rw [go_len r p,List.length_cons]
theorem cutL_len {α:Type} (l:List α) (cs:List Cl) (fr tt:Int):(cutL l cs fr tt).length=min ((clA cs (tt - 1)).f3).toNat l.length - ((clA cs fr).f2).toNat:=by
  unfold cutL
  rw [List.length_drop,List.length_take]
theorem mid_len (cs:List Cl) (fr sh:Int):(mid cs fr sh).length=min sh.toNat cs.length - fr.toNat:=by
  unfold mid
  rw [List.length_drop,List.length_take]
theorem mid_at (cs:List Cl) (fr sh:Int) (i:Nat) (h0:0≤fr) (h:i < (mid cs fr sh).length):(mid cs fr sh)[i]=clA cs (fr+(i:Int)):=by
  have h':=h
  rw [mid_len] at h'
  have e:fr+(i:Int)=((fr.toNat+i:Nat):Int):=by omega
  rw [e,clA_get cs (fr.toNat+i) (by omega)]
  have h2:(mid cs fr sh)[i]?=cs[fr.toNat+i]?:=by
    unfold mid
    rw [List.getElem?_drop,List.getElem?_take_of_lt (by omega)]
  rw [List.getElem?_eq_getElem h,List.getElem?_eq_getElem (by omega)] at h2
  exact Option.some.inj h2
theorem mid_mem (cs:List Cl) (fr sh:Int) (h0:0≤fr) (c:Cl) (h:c ∈ mid cs fr sh): ∃ i:Nat,fr≤(i:Int)∧(i:Int) < sh∧i < cs.length∧c=clA cs (i:Int):=by
  obtain ⟨i,hi,rfl⟩:=List.getElem_of_mem h
  have hi':=hi
  rw [mid_len] at hi'
  refine ⟨fr.toNat+i,by omega,by omega,by omega,?_⟩
  rw [mid_at cs fr sh i h0 hi]
  congr 1
  omega
theorem cut_ok (l0:List Rn) (cs:List Cl) (hC:Chn l0 cs 0 l0.length) (fr tt sh:Int) (hH:Has cs.length fr tt sh) (h:fr < tt):0≤(clA cs fr).f2∧(clA cs fr).f2≤(clA cs (tt - 1)).f3∧(clA cs (tt - 1)).f3≤(l0.length:Int):=by
  obtain ⟨q0,q1,q2,q3⟩:=hH
  obtain ⟨a,b,ha,hb,hab,hA⟩:=hC.at fr.toNat (by omega)
  obtain ⟨a',b',ha',hb',hab',hA'⟩:=hC.at (tt - 1).toNat (by omega)
  rw [Int.toNat_of_nonneg (by omega)] at hA hA'
  by_cases he:fr=tt - 1
  · rw [← he] at hA' ⊢
    have e1:=hA.1;have e2:=hA.2.1;have e3:=hA'.1;have e4:=hA'.2.1
    omega
  · have:=hC.lt fr.toNat (tt - 1).toNat (by omega) (by omega)
    rw [Int.toNat_of_nonneg (by omega),Int.toNat_of_nonneg (by omega)] at this
    have e1:=hA.1;have e2:=hA.2.1;have e3:=hA'.1;have e4:=hA'.2.1
    omega
theorem sen_len (l0:List Rn) (cs:List Cl) (hC:Chn l0 cs 0 l0.length) (fr sh:Int):(sen cs fr sh).length≤l0.length:=by
  have:=List.length_filter_le (fun c:Cl=>decide (0 < c.f4)) (mid cs fr sh)
  have h3:=mid_len cs fr sh
  have hle:=hC.le
  unfold sen
  omega
section
variable (l0 : List Rn) (l1 : List Int) (cs : List Cl) (hC : Chn l0 cs 0 l0.length) (fr tt sh hd dt para : Int) (hH : Has cs.length fr tt sh) (hl : l0.length < 100000) (h1 : l1.length = l0.length)
include hC hH hl h1
theorem lvs_len (h:fr < tt):((lvs l0 l1 cs fr tt para).length:Int)=(clA cs (tt - 1)).f3 - (clA cs fr).f2:=by
  obtain ⟨c0,c1,c2⟩:=cut_ok l0 cs hC fr tt sh hH h
  unfold lvs
  rw [if_pos h,go_len,List.length_zip,cutL_len,cutL_len,h1]
  omega
theorem mid_in (c:Cl) (hc:c ∈ mid cs fr sh):0≤c.f2 - frs cs fr tt∧c.f2 - frs cs fr tt < ((lvs l0 l1 cs fr tt para).length:Int)∧c.f2 < 10000000∧0≤frs cs fr tt∧frs cs fr tt < 10000000∧0≤c.f4∧c.f4≤2:=by
  have hH':=hH
  obtain ⟨q0,q1,q2,q3⟩:=hH
  obtain ⟨i,hi1,hi2,hi3,rfl⟩:=mid_mem cs fr sh q0 c hc
  have hft:fr < tt:=by omega
  obtain ⟨c0,c1,c2⟩:=cut_ok l0 cs hC fr tt sh hH' hft
  rw [lvs_len l0 l1 cs hC fr tt sh para hH' hl h1 hft]
  unfold frs
  rw [if_pos hft]
  obtain ⟨a,b,ha,hb,hab,hA⟩:=hC.at i hi3
  have e1:=hA.1;have e2:=hA.2.1;have e3:=hA.2.2.1;have e4:=hA.2.2.2.1
  have g1:(clA cs fr).f2≤(clA cs (i:Int)).f2:=by
    by_cases he:fr=(i:Int)
    · rw [he];exact Int.le_refl _
    · have:=hC.lt fr.toNat i (by omega) hi3
      rw [Int.toNat_of_nonneg (by omega)] at this
      obtain ⟨a',b',ha',hb',hab',hA'⟩:=hC.at fr.toNat (by omega)
      rw [Int.toNat_of_nonneg (by omega)] at hA'
      have e5:=hA'.1;have e6:=hA'.2.1
      omega
  have g2:(clA cs (i:Int)).f3≤(clA cs (tt - 1)).f3:=by
    by_cases he:(i:Int)=tt - 1
    · rw [he];exact Int.le_refl _
    · have:=hC.lt i (tt - 1).toNat (by omega) (by omega)
      rw [Int.toNat_of_nonneg (by omega)] at this
      obtain ⟨a',b',ha',hb',hab',hA'⟩:=hC.at (tt - 1).toNat (by omega)
      rw [Int.toNat_of_nonneg (by omega)] at hA'
      have e5:=hA'.1;have e6:=hA'.2.1
      omega
  omega
theorem begin_eq (hcl:cluster_Of.f l0=some cs):place_begin.f l0 l1 fr tt sh hd dt para=some (fr,tt,sh,hd,dt,cs,lvs l0 l1 cs fr tt para,frs cs fr tt,true):=by
  unfold place_begin.f
  rw [hcl]
  simp only [Option.bind_some]
  rw [has_eq,decide_eq_true (show 0≤fr∧fr≤sh∧sh≤tt∧tt≤(cs.length:Int) from hH)]
  simp only [Option.bind_some]
  rw [if_pos trivial]
  have hH':=hH
  obtain ⟨q0,q1,q2,q3⟩:=hH
  unfold lvs frs
  by_cases h:fr < tt
  · obtain ⟨c0,c1,c2⟩:=cut_ok l0 cs hC fr tt sh hH' h
    have hle:=hC.le
    rw [if_pos h,if_pos h,if_pos h,w64 (by omega) (by omega),if_pos (by omega),if_pos (by omega),if_pos q0,if_pos (by omega),if_pos c0,if_pos c1,if_pos c2,if_pos (by rw [h1];exact c2)]
    have hf:bidi_Line.f (cutL l0 cs fr tt) (cutL l1 cs fr tt) para=some (bidi_Line.go ((cutL l0 cs fr tt).zip (cutL l1 cs fr tt)) para).1:=by
      unfold bidi_Line.f
      exact if_pos ⟨by rw [cutL_len,cutL_len,h1],by rw [cutL_len];omega⟩
    unfold cutL clA at hf
    rw [hf]
    rfl
  · rw [if_neg h,if_neg h,if_neg h]
theorem seen_ev:Ev (fun k=>place_laid_seen.f k fr tt sh hd dt cs (lvs l0 l1 cs fr tt para) (frs cs fr tt)) (sen cs fr sh,senL l0 l1 cs fr tt sh para):=by
  have hH':=hH
  obtain ⟨q0,q1,q2,q3⟩:=hH
  have hle:=hC.le
  unfold place_laid_seen.f
  refine Ev.ifp q0 (Ev.ifp q1 (Ev.ifp (by omega) (Ev.bindc rfl ?_)))
  have hin:=mid_in l0 l1 cs hC fr tt sh para hH' hl h1
  exact seen_l0 fr tt sh hd dt cs (lvs l0 l1 cs fr tt para) (frs cs fr tt) (mid cs fr sh) (by rw [mid_len];omega) (fun c hc _=>by
    obtain ⟨e1,e2,e3,e4,e5,_⟩:=hin c hc
    exact ⟨e1,e2,e3,e4,e5⟩) (mid cs fr sh) [] [] [] rfl (Nat.le_refl _) (Nat.le_refl _)
theorem sen_wide (c:Cl) (hc:c ∈ sen cs fr sh):0 < c.f4∧c.f4≤2:=by
  obtain ⟨h2,h3⟩:=List.mem_filter.1 hc
  have:=(mid_in l0 l1 cs hC fr tt sh 0 hH hl h1 c h2).2.2.2.2.2.2
  exact ⟨of_decide_eq_true h3,this⟩
theorem text_ev:Ev (fun k=>place_laid_text.f k fr tt sh hd dt cs (lvs l0 l1 cs fr tt para) (frs cs fr tt) para) (txt l0 l1 cs fr tt sh dt para):=by
  have h2:=sen_len l0 cs hC fr sh
  have h3:(senL l0 l1 cs fr tt sh para).length=(sen cs fr sh).length:=List.length_map _
  have hsn:=seen_ev l0 l1 cs hC fr tt sh hd dt para hH hl h1
  have hw:=sen_wide l0 l1 cs hC fr tt sh hH hl h1
  unfold txt
  generalize sen cs fr sh=S at *
  generalize senL l0 l1 cs fr tt sh para=V at *
  have ho:=order_ev V (by omega)
  have h4:=ord_len V
  have h5:=ord_mem V
  generalize ord V=O at *
  unfold place_laid_text.f
  refine Ev.bind hsn (Ev.bind ho ?_)
  exact text_l0 para fr tt sh hd dt cs (lvs l0 l1 cs fr tt para) (frs cs fr tt) S V h3 (fun c hc=>by
    have:=hw c hc
    omega) O (by omega) (fun x hx=>by
    have:=(h5 x).1 hx
    omega) O [] [] rfl (Nat.le_refl _)
end
/-! ### pads -/
def lft (al free:Int):Int:=place_Slots.left al free
theorem lft_in (al free:Int) (h:0≤free):0≤lft al free∧lft al free≤free:=by
  unfold lft place_Slots.left
  split
  · omega
  split <;> omega
theorem pads_eq (n:Int) (h0:0≤n) (h1:n < 1000000):place_pads.f n=some (List.replicate n.toNat pad):=by
  unfold place_pads.f
  rw [show mx n 0=n by unfold mx;split <;> omega]
  rw [show api_Slot_37.f [(⟨2,0,0,0,0,0⟩:Sl)] n=some (List.replicate n.toNat pad) from if_pos ⟨rfl,h0,h1⟩]
  rfl
def laid (t:List Sl) (w al:Int):List Sl :=
  List.replicate (lft al (w - (min t.length w.toNat:Nat))).toNat pad++(t.take w.toNat++List.replicate (w - (min t.length w.toNat:Nat) - lft al (w - (min t.length w.toNat:Nat))).toNat pad)
theorem lay_eq (t:List Sl) (w al:Int) (h0:1≤w) (h1:w≤1024):place_Slots.lay t w al=some (laid t w al,0):=by
  unfold place_Slots.lay laid
  have hm:min t.length w.toNat≤w.toNat:=Nat.min_le_right _ _
  obtain ⟨n,hn⟩: ∃ n,n=min t.length w.toNat:=⟨_,rfl⟩
  rw [← hn] at hm ⊢
  obtain ⟨a1,a2⟩:=lft_in al (w - (n:Int)) (by omega)
  have ht:t.take n=t.take w.toNat:=by
    rw [hn]
    rcases Nat.le_total t.length w.toNat with h|h
    · rw [Nat.min_eq_left h,List.take_of_length_le (Nat.le_refl _),List.take_of_length_le h]
    · rw [Nat.min_eq_right h]
  show (place_pads.f (lft al (w - (n:Int)))).bind _=_
  rw [pads_eq _ a1 (by omega)]
  simp only [Option.bind_some]
  show (place_pads.f (w - (n:Int) - lft al (w - (n:Int)))).bind _=_
  rw [pads_eq _ (by omega) (by omega)]
  simp only [Option.bind_some]
  rw [ht]
  have hl:(t.take w.toNat).length≤w.toNat:=by rw [List.length_take];omega
  have hf:api_Slot_19.f [List.replicate (lft al (w - (n:Int))).toNat pad,t.take w.toNat,List.replicate (w - (n:Int) - lft al (w - (n:Int))).toNat pad]=some ([List.replicate (lft al (w - (n:Int))).toNat pad,t.take w.toNat,List.replicate (w - (n:Int) - lft al (w - (n:Int))).toNat pad].flatten):=by
    unfold api_Slot_19.f
    refine if_pos ⟨rfl,?_⟩
    simp only [List.flatten_cons,List.flatten_nil,List.append_nil,List.length_append,List.length_replicate]
    omega
  rw [hf]
  simp
theorem laid_len (t:List Sl) (w al:Int) (h0:1≤w):((laid t w al).length:Int)=w:=by
  unfold laid
  have hm:min t.length w.toNat≤w.toNat:=Nat.min_le_right _ _
  obtain ⟨n,hn⟩: ∃ n,n=min t.length w.toNat:=⟨_,rfl⟩
  rw [← hn] at hm ⊢
  obtain ⟨a1,a2⟩:=lft_in al (w - (n:Int)) (by omega)
  have hl:(t.take w.toNat).length=n:=by rw [List.length_take,hn,Nat.min_comm]
  rw [List.length_append,List.length_append,List.length_replicate,List.length_replicate,hl]
  omega
theorem slots_ev (l0:List Rn) (l1:List Int) (fr tt sh hd dt para w al:Int) (cs:List Cl) (hcl:cluster_Of.f l0=some cs) (hC:Chn l0 cs 0 l0.length) (hl:l0.length < 100000) :
    Ev (fun k=>place_Slots.f k l0 l1 fr tt sh hd dt para w al) (if place_Slots.bad l0.length l1.length para w al then ([],1) else if 0≤fr∧fr≤sh∧sh≤tt∧tt≤(cs.length:Int) then (laid (txt l0 l1 cs fr tt sh dt para) w al,0) else ([],4)):=by
  unfold place_Slots.f
  by_cases hb:place_Slots.bad l0.length l1.length para w al
  · rw [if_pos hb]
    exact Ev.ifp hb (Ev.now _)
  rw [if_neg hb]
  refine Ev.ifn hb ?_
  have hb':=hb
  unfold place_Slots.bad at hb'
  have h1:l1.length=l0.length:=by omega
  by_cases hh:0≤fr∧fr≤sh∧sh≤tt∧tt≤(cs.length:Int)
  · rw [if_pos hh]
    refine Ev.bindc (begin_eq l0 l1 cs hC fr tt sh hd dt para hh hl h1 hcl) (Ev.ifp rfl (Ev.bind (text_ev l0 l1 cs hC fr tt sh hd dt para hh hl h1) ?_))
    rw [lay_eq _ w al (by omega) (by omega)]
    exact Ev.now _
  · rw [if_neg hh]
    have hbg:place_begin.f l0 l1 fr tt sh hd dt para=some (0,0,0,0,0,[],[],0,false):=by
      unfold place_begin.f
      rw [hcl]
      simp only [Option.bind_some]
      rw [has_eq,decide_eq_false hh]
      rfl
    exact Ev.bindc hbg (Ev.ifn (by decide) (Ev.now _))
end Go.Proofs.Yteoaegigjlhamaa.PC19
