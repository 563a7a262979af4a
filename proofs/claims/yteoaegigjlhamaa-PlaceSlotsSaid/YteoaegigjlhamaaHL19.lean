/- Chapters 2 and 3 for chapter 19: the document's classes and glyphs are the program's. Conditions: none. -/
import Derived.Test.YteoaegigjlhamaaPC19x11
import Derived.Test.YteoaegigjlhamaaPC19x4
import Derived.Test.YteoaegigjlhamaaHRnd
import Derived.Test.YteoaegigjlhamaaPC19x6
import Derived.Test.YteoaegigjlhamaaPC19x11
import Derived.Test.YteoaegigjlhamaaHEv
namespace Go.Proofs.Yteoaegigjlhamaa.PC19.Q02
open Go.Proofs.Yteoaegigjlhamaa.PC19
open Go.RowKit Go.Proofs.YteoaegigjlhamaaW.PrintWords Go.Proofs.YteoaegigjlhamaaW.PrintLast Go.Proofs.YteoaegigjlhamaaW.PrintMore Go.Proofs.YteoaegigjlhamaaH
set_option linter.unusedVariables false
set_option linter.unusedSimpArgs false
abbrev RW:=S148
def tab:List RW:=(q02_Table.f).getD []
def refT:List RW→Int→Int
  | [],_=>0
  | r::l,c=>if inSp r.f1 c=true then r.f0 else refT l c
def dd:List Int→List Int
  | a::b::r=>if a=b then dd (b::r) else a::dd (b::r)
  | l=>l
def ends2:List Int:=dd (class_spans.L.flatMap fun r=>[r.f0,r.f1+1])
set_option maxRecDepth 100000 in
theorem ends2_up:rup ends2 (-1)=true:=by decide +kernel
set_option maxRecDepth 100000 in
theorem ends2_prog:(class_spans.L.all fun r=>ends2.contains r.f0 && ends2.contains (r.f1+1))=true:=by decide +kernel
set_option maxRecDepth 100000 in
theorem ends2_ref:(tab.all fun r=>spIn ends2 r.f1 && (decide (r.f1.length % 2=0) && decide (r.f1.length < 1000000)))=true:=by decide +kernel
theorem tab_len:tab.length < 1000:=by decide +kernel
theorem spn_rnd (c:Int): ∀ l:List (S117),(l.all fun r=>ends2.contains r.f0 && ends2.contains (r.f1+1))=true→class_Of.spn l c=class_Of.spn l (rnd ends2 (-1) c)
  | [],_=>rfl
  | r::l,h=>by
    simp only [List.all_cons,Bool.and_eq_true,List.contains_iff_mem] at h
    have h1:=rnd_iff ends2 (-1) c ends2_up _ h.1.1
    have h2:=rnd_iff ends2 (-1) c ends2_up _ h.1.2
    unfold class_Of.spn
    rw [spn_rnd c l h.2]
    by_cases h3:r.f1 < c
    · rw [if_pos h3,if_pos (show r.f1 < rnd ends2 (-1) c by omega)]
    · rw [if_neg h3,if_neg (show ¬ r.f1 < rnd ends2 (-1) c by omega)]
      by_cases h4:c < r.f0
      · rw [if_pos h4,if_pos (show rnd ends2 (-1) c < r.f0 by omega)]
      · rw [if_neg h4,if_neg (show ¬ rnd ends2 (-1) c < r.f0 by omega)]
theorem refT_rnd (c:Int): ∀ l:List RW,(l.all fun r=>spIn ends2 r.f1 && (decide (r.f1.length % 2=0) && decide (r.f1.length < 1000000)))=true→refT l c=refT l (rnd ends2 (-1) c)
  | [],_=>rfl
  | r::l,h=>by
    simp only [List.all_cons,Bool.and_eq_true] at h
    unfold refT
    rw [← inSp_rnd ends2 (-1) c ends2_up _ h.1.1,← refT_rnd c l (by simpa using h.2)]
set_option maxRecDepth 100000 in
theorem classes_at: ∀ x ∈ (-1)::ends2,class_Of.spn class_spans.L x=refT tab x:=by decide +kernel
theorem classes_eq (c:Int):class_Of.val c=refT tab c:=by
  unfold class_Of.val
  rw [spn_rnd c _ ends2_prog,refT_rnd c _ ends2_ref]
  exact classes_at _ (rnd_mem _ _ _)
theorem rdW_mid (pre:List RW) (x:RW) (r:List RW):rd_T148 (pre++x::r) (pre.length:Int)=x:=by
  unfold rd_T148
  rw [Int.toNat_natCast,List.getD_eq_getElem?_getD,List.getElem?_append_right (Nat.le_refl _),Nat.sub_self]
  rfl
theorem ref_l1 (c:Int) (T:List RW) (i:Nat) (hi:i < T.length) (v:Int) (R:List Int) (hR:R.length < 1000000) (hrow:(rd_T148 T (i:Int)).f0=v) (rest:Int) (hT:T.length < 1000)
    (hnext:Ev (fun k=>q02_Of.l0 k c T ((i+1:Nat):Int)) rest): ∀ (r pre:List Int),R=pre++r→r.length % 2=0→Ev (fun k=>q02_Of.l1 k c T (i:Int) R (pre.length:Int)) (if inSp r c=true then v else rest)
  | [],pre,h,he=>by
    refine Ev.succ ?_
    simp only [q02_Of.l1]
    have hl:R.length=pre.length:=by rw [h];simp
    rw [w64 (x:=(pre.length:Int)+1) (by omega) (by omega),w64 (x:=(i:Int)+1) (by omega) (by omega)]
    refine Ev.ifn (by omega) ?_
    rw [show (i:Int)+1=((i+1:Nat):Int) from by omega]
    exact hnext
  | [_],pre,h,he=>by simp at he
  | a::b::r,pre,h,he=>by
    have hl:R.length=pre.length+(r.length+2):=by rw [h];simp
    have e1:rd R (pre.length:Int)=a:=by rw [h];exact rd_mid pre a (b::r)
    have e2:rd R ((pre.length:Int)+1)=b:=by
      have:=rd_mid (pre++[a]) b r
      rw [List.length_append,List.append_assoc] at this
      rw [h]
      simpa using this
    have ih:=ref_l1 c T i hi v R hR hrow rest hT hnext r (pre++[a,b]) (by rw [h];simp) (by simp only [List.length_cons] at he;omega)
    have e3:wrap64 ((pre.length:Int)+2)=((pre++[a,b]).length:Int):=by rw [w64 (by omega) (by omega)];simp
    refine Ev.succ ?_
    simp only [q02_Of.l1]
    rw [e1,e3,w64 (x:=(pre.length:Int)+1) (by omega) (by omega),e2,hrow]
    simp only [inSp]
    refine Ev.ifp (by omega) (Ev.ifp (by omega) (Ev.ifp (by omega) ?_))
    by_cases ha:a≤c
    · refine Ev.ifp ha (Ev.ifp (by omega) ?_)
      by_cases hb:c≤b
      · exact Ev.ifp hb (Ev.ifp (by omega) (Ev.ifp (by omega) (Ev.val (Ev.now _) (by simp [ha,hb]))))
      · exact Ev.ifn hb (Ev.val ih (by simp [ha,hb]))
    · exact Ev.ifn ha (Ev.val ih (by simp [ha]))
theorem ref_l0 (c:Int) (T:List RW) (hT:T.length < 1000) (hall:(T.all fun r=>spIn ends2 r.f1 && (decide (r.f1.length % 2=0) && decide (r.f1.length < 1000000)))=true): ∀ (r pre:List RW),T=pre++r→Ev (fun k=>q02_Of.l0 k c T (pre.length:Int)) (refT r c)
  | [],pre,h=>by
    refine Ev.succ ?_
    simp only [q02_Of.l0]
    exact Ev.ifn (by rw [h];simp) (Ev.now _)
  | x::r,pre,h=>by
    have hl:T.length=pre.length+(r.length+1):=by rw [h];simp
    have hrd:rd_T148 T (pre.length:Int)=x:=by rw [h];exact rdW_mid pre x r
    have hx:=List.all_eq_true.1 hall x (by rw [h];simp)
    simp only [Bool.and_eq_true,decide_eq_true_eq] at hx
    have ih:=ref_l0 c T hT hall r (pre++[x]) (by rw [h];simp)
    rw [show ((pre++[x]).length:Int)=((pre.length+1:Nat):Int) from by simp] at ih
    refine Ev.succ ?_
    simp only [q02_Of.l0]
    rw [hrd]
    refine Ev.ifp (by omega) (Ev.ifp (by omega) ?_)
    exact ref_l1 c T pre.length (by omega) x.f0 x.f1 hx.2.2 (by rw [hrd]) (refT r c) hT ih x.f1 [] rfl hx.2.1
theorem refOf_ev (c:Int):Ev (fun k=>q02_Of.f k c) (class_Of.val c):=by
  rw [classes_eq]
  unfold q02_Of.f
  exact Ev.bindc (show q02_Table.f=some tab from rfl) (ref_l0 c tab tab_len ends2_ref tab [] rfl)
end Go.Proofs.Yteoaegigjlhamaa.PC19.Q02
namespace Go.Proofs.Yteoaegigjlhamaa.PC19.Q03
open Go.Proofs.Yteoaegigjlhamaa.PC19
open Go.RowKit Go.Proofs.YteoaegigjlhamaaW.PrintWords Go.Proofs.YteoaegigjlhamaaW.PrintLast Go.Proofs.YteoaegigjlhamaaW.PrintMore Go.Proofs.YteoaegigjlhamaaH
set_option linter.unusedVariables false
set_option linter.unusedSimpArgs false
def hit (c:Int):Prop:= ∃ j,j < 38∧(mirror_find.row j).f≤c∧c≤(mirror_find.row j).t
theorem val_out (c:Int) (h: ¬ hit c):mirror_find.val c=(0,0,false):=by
  unfold mirror_find.val
  rw [if_neg]
  rintro ⟨h1,h2⟩
  exact h ⟨_,h1,h2,mirror_find.at_here c h1⟩
def pairV (c:Int):Int × Int:=if (mirror_find.val c).2.2=true then ((mirror_find.val c).1,(mirror_find.val c).2.1) else (0,0)
def glyphV (c:Int):Int:=if (mirror_find.val c).1 > 0 then (mirror_find.val c).2.1 else c
theorem glyph_eq (c:Int):mirror_Glyph.f c=some (glyphV c):=by
  unfold mirror_Glyph.f mirror_find.f glyphV
  simp only [Option.bind_some]
  split <;> rfl
theorem pair_out (c:Int) (h: ¬ hit c):pairV c=(0,0):=by unfold pairV;rw [val_out c h];rfl
theorem glyph_out (c:Int) (h: ¬ hit c):glyphV c=c:=by unfold glyphV;rw [val_out c h];rfl
theorem each_hit (p:Int→Bool) (h: ∀ j:Fin 38,∀ i:Fin 28,(mirror_find.row j.val).f+(i.val:Nat)≤(mirror_find.row j.val).t→p ((mirror_find.row j.val).f+(i.val:Nat))=true)
    (c:Int) (hc:hit c):p c=true:=by
  obtain ⟨j,hj,h1,h2⟩:=hc
  have hw: ∀ j:Fin 38,(mirror_find.row j.val).t - (mirror_find.row j.val).f < 28:=by decide +kernel
  have:=hw ⟨j,hj⟩
  simp only at this
  have e:(mirror_find.row j).f+((c - (mirror_find.row j).f).toNat:Nat)=c:=by omega
  have:=h ⟨j,hj⟩ ⟨(c - (mirror_find.row j).f).toNat,by omega⟩ (by simp only;omega)
  simp only [e] at this
  exact this
def outR (c:Int):List Int→Prop
  | a::b::r=>(c < a∨b < c)∧(0≤a∧a≤b)∧b < 100000∧(b - a) % 2=1∧outR c r
  | _=>True
theorem rows_l1 (L:List Int) (c a b:Int) (i:Nat) (hi:i+1 < L.length) (hlen:L.length < 1000) (hb:rd L ((i:Int)+1)=b) (hc:c < a∨b < c) (ha:0≤a) (hbb:b < 100000) (hodd:(b - a) % 2=1)
    (h:Ev (fun k=>q03_inRows.l0 k L c ((i+2:Nat):Int)) (0,0)): ∀ (n:Nat) (x:Int),b - x≤2 * n→a≤x→x < 200000→(x - a) % 2=0→Ev (fun k=>q03_inRows.l1 k L c (i:Int) x) (0,0)
  | n,x,hn,hax,hx,hm=>by
    refine Ev.succ ?_
    simp only [q03_inRows.l1]
    rw [w64 (x:=(i:Int)+1) (by omega) (by omega),hb]
    refine Ev.ifp (by omega) (Ev.ifp (by omega) ?_)
    by_cases hlt:x < b
    · cases n with
      | zero=>omega
      | succ n =>
        rw [w64 (x:=x+1) (by omega) (by omega),w64 (x:=x+2) (by omega) (by omega)]
        exact Ev.ifp hlt (Ev.ifn (by omega) (Ev.ifn (by omega) (rows_l1 L c a b i hi hlen hb hc ha hbb hodd h n (x+2) (by omega) (by omega) (by omega) (by omega))))
    · refine Ev.ifn hlt ?_
      rw [w64 (x:=(i:Int)+2) (by omega) (by omega),show (i:Int)+2=((i+2:Nat):Int) by omega]
      exact h
theorem rd_two (pre:List Int) (a b:Int) (r:List Int):rd (pre++a::b::r) (pre.length:Int)=a∧rd (pre++a::b::r) ((pre.length:Int)+1)=b:=by
  unfold rd
  constructor
  · rw [Int.toNat_natCast,List.getD_eq_getElem?_getD,List.getElem?_append_right (Nat.le_refl _),Nat.sub_self]
    rfl
  · rw [show ((pre.length:Int)+1).toNat=pre.length+1 by omega,List.getD_eq_getElem?_getD,List.getElem?_append_right (by omega),show pre.length+1 - pre.length=1 by omega]
    rfl
theorem rows_none (L:List Int) (c:Int) (hlen:L.length < 1000): ∀ (r pre:List Int),L=pre++r→r.length % 2=0→outR c r→Ev (fun k=>q03_inRows.l0 k L c (pre.length:Int)) (0,0)
  | [],pre,h,_,_=>by
    refine Ev.succ ?_
    simp only [q03_inRows.l0]
    exact Ev.ifn (by rw [h];simp) (Ev.now _)
  | [_],pre,h,he,_=>by simp at he
  | a::b::r,pre,h,he,ho=>by
    obtain ⟨h1,⟨h2,h2'⟩,h3,h4,h5⟩:=ho
    have hl:L.length=pre.length+(r.length+2):=by rw [h];simp
    obtain ⟨e1,e2⟩:=rd_two pre a b r
    rw [← h] at e1 e2
    have ih:=rows_none L c hlen r (pre++[a,b]) (by rw [h];simp) (by simp only [List.length_cons] at he;omega) h5
    rw [show (pre++[a,b]).length=pre.length+2 by simp] at ih
    refine Ev.succ ?_
    simp only [q03_inRows.l0]
    rw [e1]
    refine Ev.ifp (by omega) (Ev.ifp (by omega) ?_)
    exact rows_l1 L c a b pre.length (by omega) hlen e2 h1 h2 h3 h4 ih 100000 a (by omega) (by omega) (by omega) (by omega)
theorem pairs_none (L:List Int) (c:Int) (hlen:L.length < 1000): ∀ (r pre:List Int),L=pre++r→r.length % 2=0→c ∉ r→Ev (fun k=>q03_inPairs.l0 k L c (pre.length:Int)) (0,0)
  | [],pre,h,_,_=>by
    refine Ev.succ ?_
    simp only [q03_inPairs.l0]
    exact Ev.ifn (by rw [h];simp) (Ev.now _)
  | [_],pre,h,he,_=>by simp at he
  | a::b::r,pre,h,he,ho=>by
    have hl:L.length=pre.length+(r.length+2):=by rw [h];simp
    obtain ⟨e1,e2⟩:=rd_two pre a b r
    rw [← h] at e1 e2
    simp only [List.mem_cons,not_or] at ho
    obtain ⟨h1,h2,h3⟩:=ho
    have ih:=pairs_none L c hlen r (pre++[a,b]) (by rw [h];simp) (by simp only [List.length_cons] at he;omega) h3
    rw [show (((pre++[a,b]).length:Nat):Int)=(pre.length:Int)+2 by simp] at ih
    refine Ev.succ ?_
    simp only [q03_inPairs.l0]
    rw [w64 (x:=(pre.length:Int)+1) (by omega) (by omega),w64 (x:=(pre.length:Int)+2) (by omega) (by omega),e1,e2]
    exact Ev.ifp (by omega) (Ev.ifp (by omega) (Ev.ifn h1 (Ev.ifp (by omega) (Ev.ifp (by omega) (Ev.ifn h2 ih)))))
def inRow (a b:Int):Bool:=(List.range 38).any fun j=>decide ((mirror_find.row j).f≤a) && decide (b≤(mirror_find.row j).t)
theorem inRow_hit (a b c:Int) (h:inRow a b=true) (h1:a≤c) (h2:c≤b):hit c:=by
  unfold inRow at h
  rw [List.any_eq_true] at h
  obtain ⟨j,hj,hh⟩:=h
  simp only [Bool.and_eq_true,decide_eq_true_eq] at hh
  exact ⟨j,List.mem_range.1 hj,by omega,by omega⟩
def okR:List Int→Bool
  | a::b::r=>inRow a b && (decide (0≤a) && (decide (a≤b) && (decide (b < 100000) && (decide ((b - a) % 2=1) && okR r))))
  | _=>true
theorem out_okR (c:Int) (hc: ¬ hit c): ∀ l,okR l=true→outR c l
  | a::b::r,h=>by
    simp only [okR,Bool.and_eq_true,decide_eq_true_eq] at h
    obtain ⟨h1,h2,h3,h4,h5,h6⟩:=h
    refine ⟨?_,⟨h2,h3⟩,h4,h5,out_okR c hc r h6⟩
    by_cases h7:c < a
    · exact Or.inl h7
    · by_cases h8:b < c
      · exact Or.inr h8
      · exact absurd (inRow_hit a b c h1 (by omega) (by omega)) hc
  | [_],_=>trivial
  | [],_=>trivial
theorem out_okM (c:Int) (hc: ¬ hit c) (l:List Int) (h:l.all (fun x=>inRow x x)=true):c ∉ l:=by
  intro hm
  exact hc (inRow_hit c c c (List.all_eq_true.1 h c hm) (Int.le_refl _) (Int.le_refl _))
def bracketsL:List Int:=(q03_brackets.f).getD []
def othersL:List Int:=(q03_others.f).getD []
def loneT:List Int:=(q03_lone.f true).getD []
def loneF:List Int:=(q03_lone.f false).getD []
set_option maxRecDepth 100000 in
theorem tables:okR bracketsL=true∧okR othersL=true∧loneT.all (fun x=>inRow x x)=true∧loneF.all (fun x=>inRow x x)=true:=by decide +kernel
theorem brackets_out (c:Int) (h: ¬ hit c):Ev (fun k=>q03_inRows.f k bracketsL c) (0,0):=by
  unfold q03_inRows.f
  exact rows_none bracketsL c (by decide +kernel) bracketsL [] rfl (by decide +kernel) (out_okR c h _ tables.1)
theorem others_out (c:Int) (h: ¬ hit c):Ev (fun k=>q03_inRows.f k othersL c) (0,0):=by
  unfold q03_inRows.f
  exact rows_none othersL c (by decide +kernel) othersL [] rfl (by decide +kernel) (out_okR c h _ tables.2.1)
theorem loneT_out (c:Int) (h: ¬ hit c):Ev (fun k=>q03_inPairs.f k loneT c) (0,0):=by
  unfold q03_inPairs.f
  exact pairs_none loneT c (by decide +kernel) loneT [] rfl (by decide +kernel) (out_okM c h _ tables.2.2.1)
theorem loneF_out (c:Int) (h: ¬ hit c):Ev (fun k=>q03_inPairs.f k loneF c) (0,0):=by
  unfold q03_inPairs.f
  exact pairs_none loneF c (by decide +kernel) loneF [] rfl (by decide +kernel) (out_okM c h _ tables.2.2.2)
set_option maxRecDepth 100000 in
theorem refPair_hit (c:Int) (h:hit c):q03_Pair.f 300 c=some (pairV c) :=
  of_decide_eq_true (each_hit (fun c=>decide (q03_Pair.f 300 c=some (pairV c))) (by decide +kernel) c h)
theorem refPair_ev (c:Int):Ev (fun k=>q03_Pair.f k c) (pairV c):=by
  by_cases h:hit c
  · exact Ev.of (fun k=>q03_Pair.mono c k) (refPair_hit c h)
  · rw [pair_out c h]
    unfold q03_Pair.f
    refine Ev.bindc (show q03_brackets.f=some bracketsL from rfl) (Ev.bind (brackets_out c h) (Ev.ifp rfl ?_))
    exact Ev.bindc (show q03_lone.f true=some loneT from rfl) (Ev.bind (loneT_out c h) (Ev.now _))
set_option maxRecDepth 100000 in
theorem refGlyph_hit (c:Int) (h:hit c):q03_Glyph.f 300 c=some (glyphV c) :=
  of_decide_eq_true (each_hit (fun c=>decide (q03_Glyph.f 300 c=some (glyphV c))) (by decide +kernel) c h)
theorem refGlyph_ev (c:Int):Ev (fun k=>q03_Glyph.f k c) (glyphV c):=by
  by_cases h:hit c
  · exact Ev.of (fun k=>q03_Glyph.mono c k) (refGlyph_hit c h)
  · have hp:=refPair_ev c
    rw [pair_out c h] at hp
    rw [glyph_out c h]
    unfold q03_Glyph.f
    refine Ev.bind hp (Ev.ifp rfl (Ev.bindc (show q03_others.f=some othersL from rfl) (Ev.bind (others_out c h) (Ev.succ ?_))))
    simp only [q03_Glyph.j0]
    exact Ev.ifp (by trivial) (Ev.bindc (show q03_lone.f false=some loneF from rfl) (Ev.bind (loneF_out c h) (Ev.ifp rfl (Ev.now _))))
end Go.Proofs.Yteoaegigjlhamaa.PC19.Q03
