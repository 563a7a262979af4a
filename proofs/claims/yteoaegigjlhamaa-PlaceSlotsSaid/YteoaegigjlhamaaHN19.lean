/- Chapters 16 and 19, the document's side: its Order, Line, Shown, Seen, Text, Pad tell what bidi and place tell. Conditions: whole numbers of 64 bits; fewer than 100000 runes. -/
import Derived.Test.YteoaegigjlhamaaHC19
import Derived.Test.YteoaegigjlhamaaHL19
import Derived.Test.YteoaegigjlhamaaPC19x11
import Derived.Test.YteoaegigjlhamaaPC19x10
import Derived.Test.YteoaegigjlhamaaPC19x12
namespace Go.Proofs.Yteoaegigjlhamaa.PC19
open Go.RowKit Go.Proofs.YteoaegigjlhamaaW.PrintWords Go.Proofs.YteoaegigjlhamaaW.PrintLast Go.Proofs.YteoaegigjlhamaaW.PrintMore Go.Proofs.YteoaegigjlhamaaH
set_option linter.unusedVariables false
set_option linter.unusedSimpArgs false
/-! ### Order -/
theorem lvl_eq (L:List Int) (x:Int) (h0:0≤x) (h1:x < (L.length:Int)):lvl L x=ctl (rd L x):=by
  obtain ⟨n,rfl⟩:=Int.eq_ofNat_of_zero_le h0
  unfold lvl rd
  rw [Int.toNat_natCast,List.getD_eq_getElem?_getD,List.getD_eq_getElem?_getD,List.getElem?_map,List.getElem?_eq_getElem (by omega)]
  rfl
theorem ord_l3 (L:List Int) (a:Int) (res:List Int) (x7:Int): ∀ (n:Nat) (pre m post:List Int) (i j:Int),m.length≤n→pre.length+m.length+post.length < 1000000→i=(pre.length:Int)→j=(pre.length:Int)+(m.length:Int) - 1 →
    Ev (fun k=>q16_Order.l2 k L (pre++m.reverse++post) a (wrap64 (x7+1)) (wrap64 (x7+1))) res→Ev (fun k=>q16_Order.l3 k L (pre++m++post) a x7 i j) res
  | n,pre,m,post,i,j,hn,hl,hi,hj,H=>by
    refine Ev.succ ?_
    simp only [q16_Order.l3]
    rcases ends_or m with rfl|⟨x,rfl⟩|⟨x,m',y,rfl⟩
    · exact Ev.ifn (by simp only [List.length_nil] at hj;omega) H
    · exact Ev.ifn (by simp only [List.length_cons,List.length_nil] at hj;omega) H
    · simp only [List.length_cons,List.length_append,List.length_nil] at hj hl hn
      obtain ⟨n,rfl⟩: ∃ q,n=q+1:=⟨n - 1,by omega⟩
      have e:pre++x::(m'++[y])++post=pre++x::(m'++y::post):=by simp
      rw [e]
      obtain ⟨h1,h2,h3⟩:=swapped pre m' post x y i j hi (by omega)
      have hlen:((pre++x::(m'++y::post)).length:Int)=(pre.length:Int)+(m'.length:Int)+(post.length:Int)+2:=by simp only [List.length_append,List.length_cons];omega
      refine Ev.ifp (by omega) (Ev.ifp (by omega) (Ev.ifp (by omega) (Ev.ifp (by omega) (Ev.ifp (by omega) ?_))))
      rw [h1,h2,h3]
      refine ord_l3 L a res x7 n (pre++[y]) m' (x::post) (wrap64 (i+1)) (wrap64 (j - 1)) (by omega) (by simp only [List.length_append,List.length_cons,List.length_nil];omega) (by rw [w64 (by omega) (by omega)];simp only [List.length_append,List.length_cons,List.length_nil];omega) (by rw [w64 (by omega) (by omega)];simp only [List.length_append,List.length_cons,List.length_nil];omega) ?_
      rw [show pre++[y]++m'.reverse++x::post=pre++(x::(m'++[y])).reverse++post by simp]
      exact H
theorem ord_l2 (L:List Int) (a:Int) (res:List Int): ∀ (R D S:List Int),(∀ x ∈ R,0≤x∧x < (L.length:Int))→D.length+S.length+R.length < 200000 →
    Ev (fun k=>q16_Order.l1 k L (D++rv (lvl L) a S.reverse R) (wrap64 (a - 1))) res →
    Ev (fun k=>q16_Order.l2 k L (D++(S++R)) a (D.length:Int) ((D.length+S.length:Nat):Int)) res
  | [],D,S,hR,hl,H=>by
    simp only [List.length_nil] at hl
    have hlen:(D++(S++([]:List Int))).length=D.length+S.length:=by simp
    rw [rv_nil] at H
    refine Ev.succ ?_
    simp only [q16_Order.l2]
    refine Ev.ifp (by omega) (Ev.ifn (by omega) (Ev.succ ?_))
    simp only [q16_Order.j3]
    refine Ev.ifn (by decide) ?_
    rw [w64 (x:=((D.length+S.length:Nat):Int) - 1) (by omega) (by omega)]
    have:=ord_l3 L a res ((D.length+S.length:Nat):Int) S.length D S [] (D.length:Int) (((D.length+S.length:Nat):Int) - 1) (Nat.le_refl _) (by simp;omega) rfl (by omega) ?_
    · rw [List.append_nil] at this ⊢
      exact this
    · rw [List.append_nil,w64 (by omega) (by omega)]
      refine Ev.succ ?_
      simp only [q16_Order.l2]
      exact Ev.ifn (by rw [List.length_append,List.length_reverse];omega) H
  | x::R,D,S,hR,hl,H=>by
    simp only [List.length_cons] at hl
    have hlen:(D++(S++x::R)).length=D.length+S.length+(R.length+1):=by simp;omega
    have hx:rd (D++(S++x::R)) ((D.length+S.length:Nat):Int)=x:=by
      rw [← List.append_assoc]
      exact rd_app _ _ _ _ (by simp)
    obtain ⟨x0,x1⟩:=hR x (by simp)
    have hR': ∀ y ∈ R,0≤y∧y < (L.length:Int):=fun y hy=>hR y (by simp [hy])
    rw [rv_cons,lvl_eq L x x0 x1] at H
    refine Ev.succ ?_
    simp only [q16_Order.l2]
    rw [hx]
    refine Ev.ifp (by omega) (Ev.ifp (by omega) (Ev.ifp (by omega) (Ev.ifp x0 (Ev.ifp x1 (Ev.bindc (show q16_Cut.f (rd L x)=some (ctl (rd L x)) from rfl) (Ev.succ ?_))))))
    simp only [q16_Order.j3]
    by_cases hc:ctl (rd L x)≥a
    · rw [if_pos hc] at H
      refine Ev.ifp (decide_eq_true hc) ?_
      rw [w64 (by omega) (by omega)]
      have:=ord_l2 L a res R D (S++[x]) hR' (by simp;omega) (by rw [List.reverse_append];exact H)
      rw [show D++((S++[x])++R)=D++(S++x::R) by simp,show ((D.length+(S++[x]).length:Nat):Int)=((D.length+S.length:Nat):Int)+1 by simp;omega] at this
      exact this
    · rw [if_neg hc] at H
      refine Ev.ifn (by rw [decide_eq_false hc];decide) ?_
      rw [w64 (x:=((D.length+S.length:Nat):Int) - 1) (by omega) (by omega)]
      have:=ord_l3 L a res ((D.length+S.length:Nat):Int) S.length D S (x::R) (D.length:Int) (((D.length+S.length:Nat):Int) - 1) (Nat.le_refl _) (by simp;omega) rfl (by omega) ?_
      · rw [List.append_assoc] at this
        exact this
      · rw [w64 (by omega) (by omega)]
        have:=ord_l2 L a res R (D++S.reverse++[x]) [] hR' (by simp;omega) (by
          rw [show D++S.reverse++[x]++rv (lvl L) a ([]:List Int).reverse R=D++(S.reverse++x::rv (lvl L) a [] R) by simp]
          exact H)
        rw [show D++S.reverse++[x]++([]++R)=D++S.reverse++x::R by simp] at this
        have e1:(((D++S.reverse++[x]).length:Nat):Int)=((D.length+S.length:Nat):Int)+1:=by simp;omega
        rw [show (((D++S.reverse++[x]).length+([]:List Int).length:Nat):Int)=((D.length+S.length:Nat):Int)+1 by simp;omega,e1] at this
        exact this
section
variable (L : List Int) (hL : L.length < 100000)
include hL
theorem ord_l1: ∀ (q n:Nat),n+q=126→Ev (fun k=>q16_Order.l1 k L (ps (lvl L) n (rg 0 L.length)) (126 - (n:Int))) (ord L)
  | 0,n,h=>by
    obtain rfl:n=126:=by omega
    refine Ev.succ ?_
    simp only [q16_Order.l1]
    exact Ev.ifn (by omega) (Ev.now _)
  | q+1,n,h=>by
    have ih:=ord_l1 q (n+1) (by omega)
    have hlen:(ps (lvl L) n (rg 0 L.length)).length=L.length:=by rw [(ps_perm _ _ _).length_eq,rg_len]
    refine Ev.succ ?_
    simp only [q16_Order.l1]
    refine Ev.ifp (by omega) ?_
    have:=ord_l2 L (126 - (n:Int)) (ord L) (ps (lvl L) n (rg 0 L.length)) [] [] (fun x hx=>by
      have:=(rg_mem _ _ _).1 ((ps_perm (lvl L) n _).mem_iff.1 hx)
      omega) (by simp only [List.length_nil];omega) (by
      rw [w64 (by omega) (by omega),show 126 - (n:Int) - 1=126 - ((n+1:Nat):Int) by omega]
      exact ih)
    exact this
theorem refOrder_ev:Ev (fun k=>q16_Order.f k L) (ord L):=by
  have l0: ∀ (q i:Nat),i+q=L.length→Ev (fun k=>q16_Order.l0 k L (rg 0 i) (i:Int)) (ord L):=by
    intro q
    induction q with
    | zero =>
      intro i hi
      obtain rfl:i=L.length:=by omega
      refine Ev.succ ?_
      simp only [q16_Order.l0]
      exact Ev.ifn (by omega) (ord_l1 L hL 126 0 rfl)
    | succ q ih =>
      intro i hi
      refine Ev.succ ?_
      simp only [q16_Order.l0]
      refine Ev.ifp (by omega) (Ev.ifp (by rw [rg_len];omega) ?_)
      rw [w64 (by omega) (by omega)]
      have:=ih (i+1) (by omega)
      rw [rg_app i 0 1,Nat.zero_add] at this
      exact this
  unfold q16_Order.f
  exact l0 L.length 0 (by omega)
end
/-! ### Line -/
def cl (l:List Rn):List Int:=l.map fun r=>class_Of.val r.f2
theorem cl_len (l:List Rn):(cl l).length=l.length:=List.length_map _
theorem refAll_ev (l:List Rn) (hl:l.length < 1000000):Ev (fun k=>q02_All.f k l) (cl l):=by
  have l0: ∀ (r pre:List Rn),l=pre++r→Ev (fun k=>q02_All.l0 k l (cl pre) (pre.length:Int)) (cl l):=by
    intro r
    induction r with
    | nil =>
      intro pre h
      refine Ev.succ ?_
      simp only [q02_All.l0]
      exact Ev.ifn (by rw [h];simp) (Ev.val (Ev.now _) (by rw [h,List.append_nil]))
    | cons x r ih =>
      intro pre h
      have hlen:l.length=pre.length+(r.length+1):=by rw [h];simp
      have hx:rd_T36 l (pre.length:Int)=x:=by rw [h];exact rnA_mid pre x r
      refine Ev.succ ?_
      simp only [q02_All.l0]
      rw [hx]
      refine Ev.ifp (by omega) (Ev.ifp (by omega) (Ev.bind (Q02.refOf_ev x.f2) (Ev.ifp (by rw [cl_len];omega) ?_)))
      rw [w64 (by omega) (by omega)]
      have:=ih (pre++[x]) (by rw [h];simp)
      rw [show ((pre++[x]).length:Int)=(pre.length:Int)+1 by simp,show cl (pre++[x])=cl pre++[class_Of.val x.f2] by simp [cl]] at this
      exact this
  unfold q02_All.f
  exact l0 l [] rfl
def blk (c:Int):Bool:=(bidi_blank.f c).getD false
theorem refBlank_eq (c:Int):q16_blank.f c=some (blk c):=by
  unfold blk q16_blank.f bidi_blank.f q11_Removed.f level_Removed.f
  by_cases h1:c=12
  · simp [h1]
  by_cases h2:c=19∨c=20∨c=21∨c=22
  · rcases h2 with rfl|rfl|rfl|rfl <;> rfl
  have hn: ¬ (c≥19∧c≤22):=by omega
  rw [if_neg h1,if_neg h1,if_neg (by omega),if_neg (by omega),if_neg (by omega),if_neg (by omega)]
  by_cases h3:c=16∨c=14∨c=17∨c=15∨c=18∨c=9
  · rcases h3 with rfl|rfl|rfl|rfl|rfl|rfl <;> rfl
  · have a1:c≠16:=by omega
    have a2:c≠14:=by omega
    have a3:c≠17:=by omega
    have a4:c≠15:=by omega
    have a5:c≠18:=by omega
    have a6:c≠9:=by omega
    by_cases h4:c≥19
    · have h5: ¬ c≤22:=by omega
      simp [a1,a2,a3,a4,a5,a6,h4,h5]
    · simp [a1,a2,a3,a4,a5,a6,h4]
theorem blk_not (c:Int) (h:blk c=true):c≠11∧c≠10:=by
  constructor
  · rintro rfl;exact absurd h (by decide)
  · rintro rfl;exact absurd h (by decide)
theorem refLine_ev (l:List Rn) (lv:List Int) (p:Int) (hl:l.length < 1000000) (he:l.length=lv.length):Ev (fun k=>q16_Line.f k l lv p) (bidi_Line.go (l.zip lv) p).1:=by
  have l1: ∀ (res:List Int) (i:Nat) (out:List Int) (v:Int),i < l.length→rd lv (i:Int)=v→out.length≤i→ ∀ (r pre:List Rn) (z:List (Rn × Int)),l=pre++r→z=(l.zip lv).drop pre.length →
      Ev (fun k=>q16_Line.l0 k l lv p (cl l) (out++[if (bidi_Line.go z p).2=true then p else v]) (wrap64 ((i:Int)+1))) res→Ev (fun k=>q16_Line.l1 k l lv p (cl l) out (i:Int) (pre.length:Int)) res:=by
    intro res i out v hi hv ho r
    induction r with
    | nil =>
      intro pre z h hz H
      have hlen:l.length=pre.length:=by rw [h];simp
      have hz0:z=[]:=by rw [hz];exact List.drop_eq_nil_of_le (by rw [List.length_zip];omega)
      rw [hz0] at H
      refine Ev.succ ?_
      simp only [q16_Line.l1]
      exact Ev.ifn (by omega) (Ev.ifp (by omega) (Ev.ifp (by omega) (Ev.ifp (by omega) (Ev.ifp (by omega) H))))
    | cons x r ih =>
      intro pre z h hz H
      have hlen:l.length=pre.length+(r.length+1):=by rw [h];simp
      have hcx:rd (cl l) (pre.length:Int)=class_Of.val x.f2:=by
        rw [h]
        have:=rd_mid (cl pre) (class_Of.val x.f2) (cl r)
        rw [cl_len] at this
        rw [show cl (pre++x::r)=cl pre++class_Of.val x.f2::cl r by simp [cl]]
        exact this
      have hzd:z=(x,lv[pre.length]'(by omega))::(l.zip lv).drop (pre++[x]).length:=by
        have hb:pre.length < (l.zip lv).length:=by rw [List.length_zip];omega
        rw [hz,List.drop_eq_getElem_cons hb,List.getElem_zip,show (pre++[x]).length=pre.length+1 by simp]
        congr 2
        have:l[pre.length]'(by omega)=x:=by
          have h9:l[pre.length]?=some x:=by rw [h,List.getElem?_append_right (Nat.le_refl _),Nat.sub_self];rfl
          exact (List.getElem?_eq_some_iff.1 h9).2
        exact this
      have hgo:(bidi_Line.go z p).2=(decide (class_Of.val x.f2=11) || decide (class_Of.val x.f2=10) || (bidi_Line.go ((l.zip lv).drop (pre++[x]).length) p).2 && blk (class_Of.val x.f2)):=by
        rw [hzd]
        rfl
      generalize class_Of.val x.f2=c at *
      refine Ev.succ ?_
      simp only [q16_Line.l1]
      rw [hcx]
      refine Ev.ifp (by omega) (Ev.ifp (by omega) (Ev.ifp (by rw [cl_len];omega) (Ev.bindc (refBlank_eq c) ?_)))
      by_cases hb:blk c=true
      · refine Ev.ifp hb ?_
        rw [w64 (by omega) (by omega)]
        have hn:=blk_not c hb
        have:=ih (pre++[x]) _ (by rw [h];simp) rfl (by
          rw [hgo,hb,decide_eq_false hn.1,decide_eq_false hn.2] at H
          simpa using H)
        rw [show ((pre++[x]).length:Int)=(pre.length:Int)+1 by simp] at this
        exact this
      · have hbf:blk c=false:=by simpa using hb
        rw [hgo,hbf,Bool.and_false,Bool.or_false] at H
        refine Ev.ifn hb (Ev.ifp (by omega) (Ev.ifp (by omega) (Ev.ifn (by omega) ?_)))
        by_cases h11:c=11
        · rw [decide_eq_true h11] at H
          exact Ev.ifp h11 (Ev.ifp (by omega) H)
        refine Ev.ifn h11 ?_
        rw [decide_eq_false h11,Bool.false_or] at H
        by_cases h10:c=10
        · rw [decide_eq_true h10] at H
          exact Ev.ifp h10 (Ev.ifp (by omega) H)
        · rw [decide_eq_false h10] at H
          rw [hv]
          exact Ev.ifn h10 (Ev.ifp (by omega) H)
  have l0: ∀ (r pre:List Rn) (out:List Int),l=pre++r→out.length=pre.length→out++(bidi_Line.go ((l.zip lv).drop pre.length) p).1=(bidi_Line.go (l.zip lv) p).1→Ev (fun k=>q16_Line.l0 k l lv p (cl l) out (pre.length:Int)) (bidi_Line.go (l.zip lv) p).1:=by
    intro r
    induction r with
    | nil =>
      intro pre out h ho hg
      have hlen:l.length=pre.length:=by rw [h];simp
      rw [List.drop_eq_nil_of_le (by rw [List.length_zip];omega)] at hg
      refine Ev.succ ?_
      simp only [q16_Line.l0]
      exact Ev.ifn (by omega) (Ev.val (Ev.now _) (by rw [← hg];exact (List.append_nil _).symm))
    | cons x r ih =>
      intro pre out h ho hg
      have hlen:l.length=pre.length+(r.length+1):=by rw [h];simp
      have hb:pre.length < (l.zip lv).length:=by rw [List.length_zip];omega
      have hd:(l.zip lv).drop pre.length=(l[pre.length]'(by omega),lv[pre.length]'(by omega))::(l.zip lv).drop (pre.length+1):=by
        rw [List.drop_eq_getElem_cons hb,List.getElem_zip]
      have hv:rd lv (pre.length:Int)=lv[pre.length]'(by omega):=by
        unfold rd
        rw [Int.toNat_natCast,List.getD_eq_getElem?_getD,List.getElem?_eq_getElem (by omega)]
        rfl
      refine Ev.succ ?_
      simp only [q16_Line.l0]
      refine Ev.ifp (by omega) ?_
      refine l1 _ pre.length out _ (by omega) hv (by omega) (x::r) pre _ h rfl ?_
      rw [w64 (by omega) (by omega)]
      have:=ih (pre++[x]) (out++[if (bidi_Line.go ((l.zip lv).drop pre.length) p).2=true then p else lv[pre.length]'(by omega)]) (by rw [h];simp) (by simp [ho]) (by
        rw [← hg,hd,show (pre++[x]).length=pre.length+1 by simp,List.append_assoc]
        rfl)
      rw [show ((pre++[x]).length:Int)=(pre.length:Int)+1 by simp] at this
      exact this
  unfold q16_Line.f
  refine Ev.ifp (by omega) (Ev.bind (refAll_ev l hl) ?_)
  exact l0 l [] [] rfl rfl rfl
/-! ### Shown, Seen -/
theorem refShown_ev (c v:Int):Ev (fun k=>q16_Shown.f k c v) (SH c v):=by
  have hb:Go.bits .and .i64 v 1=v % 2:=band v 1 1 (by decide) (by decide)
  unfold q16_Shown.f SH
  rw [hb]
  by_cases h:Int.tmod v 2=0
  · have h2:v % 2=0:=by
      have:=Int.emod_emod_of_dvd v (show (2:Int) ∣ 2 from ⟨1,rfl⟩)
      rcases Int.emod_two_eq v with h3|h3
      · exact h3
      · have:=Int.dvd_of_tmod_eq_zero h
        omega
    rw [if_neg (by omega)]
    exact Ev.ifp h (Ev.now _)
  · have h2:v % 2=1:=by
      rcases Int.emod_two_eq v with h3|h3
      · exact absurd (Int.tmod_eq_zero_of_dvd (Int.dvd_of_emod_eq_zero h3)) h
      · exact h3
    rw [if_pos h2]
    exact Ev.ifn h (Ev.bind (Q03.refGlyph_ev c) (Ev.now _))
theorem refSeen_ev (l0:List Rn) (l1:List Int) (cs:List Cl) (hC:Chn l0 cs 0 l0.length) (fr tt sh hd dt para:Int) (hH:Has cs.length fr tt sh) (hl:l0.length < 100000) (h1:l1.length=l0.length) :
    Ev (fun k=>q19_Seen.f k l0 l1 cs fr tt sh hd dt para) (sen cs fr sh,senL l0 l1 cs fr tt sh para):=by
  have hH':=hH
  obtain ⟨q0,q1,q2,q3⟩:=hH
  have hle:=hC.le
  unfold q19_Seen.f
  by_cases he:fr=tt
  · have hm:sen cs fr sh=[]:=by
      have:(mid cs fr sh).length=0:=by rw [mid_len];omega
      unfold sen
      rw [List.eq_nil_of_length_eq_zero this]
      rfl
    unfold senL
    rw [hm]
    exact Ev.ifp he (Ev.now _)
  have hft:fr < tt:=by omega
  obtain ⟨c0,c1,c2⟩:=cut_ok l0 cs hC fr tt sh hH' hft
  have hin:=mid_in l0 l1 cs hC fr tt sh para hH' hl h1
  rw [w64 (x:=tt - 1) (by omega) (by omega)]
  refine Ev.ifn he (Ev.ifp q0 (Ev.ifp (by omega) (Ev.ifp (by omega) (Ev.ifp (by omega) (Ev.ifp c0 (Ev.ifp c1 (Ev.ifp c2 (Ev.ifp (by rw [h1];exact c2) ?_))))))))
  refine Ev.bind (refLine_ev (cutL l0 cs fr tt) (cutL l1 cs fr tt) para (by rw [cutL_len];omega) (by rw [cutL_len,cutL_len,h1])) ?_
  have hlv:(bidi_Line.go ((cutL l0 cs fr tt).zip (cutL l1 cs fr tt)) para).1=lvs l0 l1 cs fr tt para:=by
    unfold lvs
    rw [if_pos hft]
  have hfs:(clA cs fr).f2=frs cs fr tt:=by
    unfold frs
    rw [if_pos hft]
  rw [hlv]
  show Ev (fun k=>q19_Seen.l0 k cs (clA cs fr).f2 (lvs l0 l1 cs fr tt para) fr fr tt sh hd dt [] []) _
  rw [hfs]
  unfold senL
  unfold sen
  generalize lvs l0 l1 cs fr tt para=V at *
  generalize frs cs fr tt=F at *
  have loop: ∀ (t:List Cl) (i:Nat) (oc:List Cl) (ol:List Int),fr≤(i:Int)→(i:Int)≤sh→t=mid cs (i:Int) sh→oc.length≤i→ol.length≤i →
      Ev (fun k=>q19_Seen.l0 k cs F V (i:Int) fr tt sh hd dt oc ol) (oc++t.filter (fun c=>decide (0 < c.f4)),ol++(t.filter (fun c=>decide (0 < c.f4))).map (fun c=>rd V (c.f2 - F))):=by
    intro t
    induction t with
    | nil =>
      intro i oc ol i0 i1 ht o1 o2
      have:(mid cs (i:Int) sh).length=0:=by rw [← ht];rfl
      rw [mid_len] at this
      refine Ev.succ ?_
      simp only [q19_Seen.l0]
      exact Ev.ifn (by omega) (Ev.val (Ev.now _) (by simp))
    | cons c t ih =>
      intro i oc ol i0 i1 ht o1 o2
      have hpos:0 < (mid cs (i:Int) sh).length:=by rw [← ht];simp
      have hml:=mid_len cs (i:Int) sh
      have hmc:mid cs (i:Int) sh=clA cs (i:Int)::mid cs ((i+1:Nat):Int) sh:=by
        unfold mid
        rw [Int.toNat_natCast,Int.toNat_natCast,List.drop_eq_getElem_cons (by rw [List.length_take];omega),List.getElem_take,clA_get cs i (by omega)]
      rw [hmc] at ht
      injection ht with hc ht
      have hmem:clA cs (i:Int) ∈ mid cs fr sh:=by
        have hj:i - fr.toNat < (mid cs fr sh).length:=by rw [mid_len];omega
        have:=mid_at cs fr sh (i - fr.toNat) q0 hj
        rw [show fr+((i - fr.toNat:Nat):Int)=(i:Int) by omega] at this
        rw [← this]
        exact List.getElem_mem hj
      obtain ⟨b1,b2,b3,b4,b5,b6,b7⟩:=hin _ hmem
      have hc':rd_T40 cs (i:Int)=c:=hc.symm
      rw [← hc] at b1 b2 b3 b6 b7
      have e1:wrap64 ((i:Int)+1)=((i+1:Nat):Int):=by rw [w64 (by omega) (by omega)];omega
      refine Ev.succ ?_
      simp only [q19_Seen.l0]
      rw [hc',e1,w64 (x:=c.f2 - F) (by omega) (by omega)]
      clear e1 hc'
      refine Ev.ifp (by omega) (Ev.ifp (by omega) (Ev.ifp (by omega) ?_))
      by_cases hw:0 < c.f4
      · refine Ev.ifp hw (Ev.ifp (by omega) (Ev.ifp b1 (Ev.ifp b2 (Ev.ifp (by omega) ?_))))
        refine Ev.val (ih (i+1) (oc++[c]) (ol++[rd V (c.f2 - F)]) (by omega) (by omega) ht (by simp;omega) (by simp;omega)) ?_
        rw [List.filter_cons_of_pos (by simpa using hw)]
        simp
      · refine Ev.ifn hw ?_
        refine Ev.val (ih (i+1) oc ol (by omega) (by omega) ht (by omega) (by omega)) ?_
        rw [List.filter_cons_of_neg (by simpa using hw)]
  have:=loop (mid cs fr sh) fr.toNat [] [] (by omega) (by omega) (by rw [Int.toNat_of_nonneg q0]) (Nat.zero_le _) (Nat.zero_le _)
  rw [Int.toNat_of_nonneg q0] at this
  exact this
/-! ### Text -/
theorem row_cons (lc:List Cl) (ls:List Int) (a:Int) (r:List Int):row lc ls (a::r)=cel (clA lc a) (SH (clA lc a).f5 (rd ls a)) 0 (clA lc a).f4.toNat++row lc ls r:=rfl
theorem row_nil (lc:List Cl) (ls:List Int):row lc ls []=[]:=rfl
theorem refText_ev (lc:List Cl) (ls:List Int) (hl:lc.length < 100000) (hs:ls.length=lc.length) (hw: ∀ c ∈ lc,0≤c.f4∧c.f4≤2) (dt para:Int) (hp:para=0∨para=1) :
    Ev (fun k=>q19_Text.f k lc ls dt para) (fin dt para (row lc ls (ord ls))):=by
  have hol:=ord_len ls
  have hom:=ord_mem ls
  have hoe:=refOrder_ev ls (by omega)
  generalize ord ls=O at *
  have l0: ∀ (t pre:List Int) (out:List Sl),O=pre++t→out.length≤2 * pre.length+1→Ev (fun k=>q19_Text.l0 k dt para out O (pre.length:Int) lc ls) (out++row lc ls t++if dt=1∧para=0 then [dot] else []):=by
    intro t
    induction t with
    | nil =>
      intro pre out h h1
      have hlen:O.length=pre.length:=by rw [h];simp
      refine Ev.succ ?_
      simp only [q19_Text.l0]
      refine Ev.ifn (by omega) ?_
      rw [row_nil,List.append_nil]
      by_cases h1':dt=1
      · refine Ev.ifp h1' ?_
        by_cases h2:para=0
        · rw [if_pos (show dt=1∧para=0 from ⟨h1',h2⟩)]
          exact Ev.ifp h2 (Ev.ifp (by omega) (Ev.now _))
        · rw [if_neg (show ¬ (dt=1∧para=0) from fun h=>h2 h.2),List.append_nil]
          exact Ev.ifn h2 (Ev.now _)
      · rw [if_neg (show ¬ (dt=1∧para=0) from fun h=>h1' h.1),List.append_nil]
        exact Ev.ifn h1' (Ev.now _)
    | cons a t ih =>
      intro pre out h h1
      have hlen:O.length=pre.length+(t.length+1):=by rw [h];simp
      have ha:rd O (pre.length:Int)=a:=by rw [h];exact rd_mid pre a t
      obtain ⟨a0,a1⟩:=(hom a).1 (by rw [h];simp)
      obtain ⟨w0,w1⟩:=hw _ (clA_mem lc a a0 (by omega))
      have e:wrap64 ((pre.length:Int)+1)=((pre++[a]).length:Int):=by rw [w64 (by omega) (by omega)];simp
      obtain ⟨c,hc⟩: ∃ c,c=clA lc a:=⟨_,rfl⟩
      rw [← hc] at w0 w1
      have l1: ∀ (n p:Nat) (x:List Sl),(n:Int)+(p:Int)=c.f4→x.length≤2 * pre.length+1+p→Ev (fun k=>q19_Text.l1 k dt para x O (pre.length:Int) (SH c.f5 (rd ls a)) (p:Int) lc ls c.f0 c.f1 c.f2 c.f3 c.f4 c.f5) (x++cel c (SH c.f5 (rd ls a)) p n++row lc ls t++if dt=1∧para=0 then [dot] else []):=by
        intro n
        induction n with
        | zero =>
          intro p x hn hx
          refine Ev.succ ?_
          simp only [q19_Text.l1]
          refine Ev.ifn (by omega) ?_
          rw [e]
          refine Ev.val (ih (pre++[a]) x (by rw [h];simp) (by simp only [List.length_append,List.length_cons,List.length_nil];omega)) ?_
          unfold cel
          rw [List.append_nil]
        | succ n ihn =>
          intro p x hn hx
          refine Ev.succ ?_
          simp only [q19_Text.l1]
          refine Ev.ifp (by omega) (Ev.ifp (by omega) ?_)
          rw [w64 (x:=(p:Int)+1) (by omega) (by omega)]
          refine Ev.val (ihn (p+1) (x++[(⟨4,0,0,c.f0,(p:Int),SH c.f5 (rd ls a)⟩:Sl)]) (by omega) (by simp only [List.length_append,List.length_cons,List.length_nil];omega)) ?_
          rw [List.append_assoc x]
          rfl
      refine Ev.succ ?_
      simp only [q19_Text.l0]
      rw [ha]
      refine Ev.ifp (by omega) (Ev.ifp (by omega) (Ev.ifp a0 (Ev.ifp (by omega) (Ev.ifp a1 (Ev.bind (refShown_ev _ _) ?_)))))
      have:=l1 c.f4.toNat 0 out (by omega) (by omega)
      subst hc
      refine Ev.val this ?_
      rw [row_cons,List.append_assoc out]
  have j1: ∀ out:List Sl,out.length≤1→Ev (fun k=>q19_Text.j1 k dt para out lc ls) (out++row lc ls O++if dt=1∧para=0 then [dot] else []):=fun out ho=>by
    refine Ev.succ ?_
    simp only [q19_Text.j1]
    exact Ev.bind (hoe) (l0 O [] out rfl (by simpa using ho))
  unfold q19_Text.f fin
  by_cases h1:dt=1
  · rw [if_pos h1]
    refine Ev.ifp h1 (Ev.succ ?_)
    simp only [q19_Text.j0]
    by_cases h2:para=1
    · rw [if_pos h2]
      refine Ev.ifp (beq_iff_eq.2 h2) (Ev.ifp (by simp) (Ev.val (j1 [dot] (by simp)) ?_))
      rw [if_neg (show ¬ (dt=1∧para=0) by omega)]
      simp
    · rw [if_neg h2]
      refine Ev.ifn (fun h=>h2 (beq_iff_eq.1 h)) (Ev.val (j1 [] (by simp)) ?_)
      rw [if_pos (show dt=1∧para=0 from ⟨h1,by omega⟩)]
      rfl
  · rw [if_neg h1]
    refine Ev.ifn h1 (Ev.succ ?_)
    simp only [q19_Text.j0]
    refine Ev.ifn (by decide) (Ev.val (j1 [] (by simp)) ?_)
    rw [if_neg (show ¬ (dt=1∧para=0) from fun h=>h1 h.1)]
    simp
/-! ### Pad -/
theorem slA_at (l:List Sl) (i:Nat) (h:i < l.length):slA l (i:Int)=l[i]:=by
  unfold slA rd_T42
  rw [Int.toNat_natCast,List.getD_eq_getElem?_getD,List.getElem?_eq_getElem h]
  rfl
theorem refPad_l0 (T:List Sl) (w:Int) (q:Nat) (hw:1≤w∧w≤1024) (hq:(q:Int)+(T.length:Int)≤w): ∀ (n i:Nat) (out:List Sl),(i:Int)+n=w→out=(List.replicate q pad++(T++List.replicate (w - (T.length:Int) - q).toNat pad)).take i →
    Ev (fun k=>q19_Pad.l0 k T w (q:Int) out (i:Int)) (List.replicate q pad++(T++List.replicate (w - (T.length:Int) - q).toNat pad))
  | 0,i,out,h,ho=>by
    refine Ev.succ ?_
    simp only [q19_Pad.l0]
    refine Ev.ifn (by omega) (Ev.val (Ev.now _) ?_)
    rw [ho]
    refine List.take_of_length_le ?_
    simp only [List.length_append,List.length_replicate]
    omega
  | n+1,i,out,h,ho=>by
    have hlen:(List.replicate q pad++(T++List.replicate (w - (T.length:Int) - q).toNat pad)).length=w.toNat:=by
      simp only [List.length_append,List.length_replicate]
      omega
    have hol:out.length=i:=by rw [ho,List.length_take,hlen];omega
    have nx: ∀ x:Sl,(List.replicate q pad++(T++List.replicate (w - (T.length:Int) - q).toNat pad))[i]?=some x→out++[x]=(List.replicate q pad++(T++List.replicate (w - (T.length:Int) - q).toNat pad)).take (i+1):=fun x hx=>by
      rw [ho,List.take_add_one,hx]
      rfl
    have go: ∀ x:Sl,(List.replicate q pad++(T++List.replicate (w - (T.length:Int) - q).toNat pad))[i]?=some x→Ev (fun k=>q19_Pad.l0 k T w (q:Int) (out++[x]) (wrap64 ((i:Int)+1))) (List.replicate q pad++(T++List.replicate (w - (T.length:Int) - q).toNat pad)):=fun x hx=>by
      have:=refPad_l0 T w q hw hq n (i+1) (out++[x]) (by omega) (nx x hx)
      rw [w64 (by omega) (by omega)]
      rw [show ((i+1:Nat):Int)=(i:Int)+1 by omega] at this
      exact this
    refine Ev.succ ?_
    simp only [q19_Pad.l0]
    rw [w64 (x:=(i:Int) - (q:Int)) (by omega) (by omega)]
    refine Ev.ifp (by omega) ?_
    by_cases h1:(i:Int)≥(q:Int)
    · refine Ev.ifp h1 ?_
      by_cases h2:(i:Int) - (q:Int) < (T.length:Int)
      · refine Ev.ifp h2 (Ev.ifp (by omega) (Ev.ifp (by omega) ?_))
        have hx:rd_T42 T ((i:Int) - (q:Int))=T[i - q]'(by omega):=by
          rw [show (i:Int) - (q:Int)=((i - q:Nat):Int) by omega]
          exact slA_at T (i - q) (by omega)
        rw [hx]
        refine go _ ?_
        rw [List.getElem?_append_right (by rw [List.length_replicate];omega),List.length_replicate,List.getElem?_append_left (by omega),List.getElem?_eq_getElem (by omega)]
      · refine Ev.ifn h2 (Ev.ifp (by omega) (go pad ?_))
        rw [List.getElem?_append_right (by rw [List.length_replicate];omega),List.length_replicate,List.getElem?_append_right (by omega),List.getElem?_replicate,if_pos (by omega)]
    · refine Ev.ifn h1 (Ev.ifp (by omega) (go pad ?_))
      rw [List.getElem?_append_left (by rw [List.length_replicate];omega),List.getElem?_replicate,if_pos (by omega)]
theorem refPad_ev (t:List Sl) (ht:t.length < 1000000) (w al:Int) (h0:1≤w) (h1:w≤1024):Ev (fun k=>q19_Pad.f k t w al) (laid t w al):=by
  have hl:(t.take w.toNat).length=min t.length w.toNat:=by rw [List.length_take,Nat.min_comm]
  have j0:Ev (fun k=>q19_Pad.j0 k (t.take w.toNat) w al) (laid t w al):=by
    unfold laid
    rw [← hl]
    generalize hT:t.take w.toNat=T at *
    have hTw:(T.length:Int)≤w:=by omega
    have hf:=lft_in al (w - (T.length:Int)) (by omega)
    have j2:Ev (fun k=>q19_Pad.j2 k T w (lft al (w - (T.length:Int)))) (List.replicate (lft al (w - (T.length:Int))).toNat pad++(T++List.replicate (w - (T.length:Int) - lft al (w - (T.length:Int))).toNat pad)):=by
      refine Ev.succ ?_
      simp only [q19_Pad.j2]
      have:=refPad_l0 T w (lft al (w - (T.length:Int))).toNat ⟨h0,h1⟩ (by omega) w.toNat 0 [] (by omega) rfl
      rw [Int.toNat_of_nonneg hf.1] at this
      exact this
    unfold lft place_Slots.left at j2 ⊢
    refine Ev.succ ?_
    simp only [q19_Pad.j0]
    rw [w64 (x:=w - (T.length:Int)) (by omega) (by omega)]
    by_cases h3:al=3
    · rw [if_pos h3] at j2 ⊢
      refine Ev.ifp h3 (Ev.succ ?_)
      simp only [q19_Pad.j1]
      exact Ev.ifn (by omega) j2
    · rw [if_neg h3] at j2 ⊢
      refine Ev.ifn h3 (Ev.succ ?_)
      simp only [q19_Pad.j1]
      by_cases h4:al=4
      · rw [if_pos h4] at j2 ⊢
        rw [w64 (x:=w - (T.length:Int)) (by omega) (by omega),Int.tdiv_eq_ediv_of_nonneg (by omega),w64 (by omega) (by omega)]
        exact Ev.ifp h4 j2
      · rw [if_neg h4] at j2 ⊢
        exact Ev.ifn h4 j2
  unfold q19_Pad.f
  by_cases h:(t.length:Int) > w
  · exact Ev.ifp h (Ev.ifp (by omega) (Ev.ifp (by omega) j0))
  · refine Ev.ifn h ?_
    rw [List.take_of_length_le (by omega)] at j0
    exact j0
end Go.Proofs.Yteoaegigjlhamaa.PC19
