/- Chapter 16, as chapter 19 wants it: the order in which places of levels stand, from the highest level on each stretch turned round; bidi.Order tells it. Conditions: at most 100000 levels. -/
import Derived.Test.YteoaegigjlhamaaPC19x6
import Derived.Test.YteoaegigjlhamaaHRnd
namespace Go.Proofs.Yteoaegigjlhamaa.PC19
open Go.RowKit Go.Proofs.YteoaegigjlhamaaW.PrintWords Go.Proofs.YteoaegigjlhamaaW.PrintLast Go.Proofs.YteoaegigjlhamaaW.PrintMore Go.Proofs.YteoaegigjlhamaaH
set_option linter.unusedVariables false
set_option linter.unusedSimpArgs false
/-! ### swaps -/
theorem rd_app (pre:List Int) (x:Int) (r:List Int) (i:Int) (h:i=(pre.length:Int)):rd (pre++x::r) i=x:=by
  subst h
  exact rd_mid pre x r
theorem set_app (pre:List Int) (x y:Int) (r:List Int) (n:Nat) (h:n=pre.length):(pre++x::r).set n y=pre++y::r:=by
  subst h
  rw [List.set_append_right _ _ (Nat.le_refl _),Nat.sub_self]
  rfl
theorem ends_or (m:List Int):m=[]∨(∃ x,m=[x])∨ ∃ x m' y,m=x::(m'++[y]):=by
  cases m with
  | nil=>exact .inl rfl
  | cons x t =>
    rcases List.eq_nil_or_concat t with h|⟨m',y,h⟩
    · exact .inr (.inl ⟨x,by rw [h]⟩)
    · exact .inr (.inr ⟨x,m',y,by rw [h];simp⟩)
theorem swapped (pre m post:List Int) (x y:Int) (i j:Int) (hi:i=(pre.length:Int)) (hj:j=(pre.length:Int)+(m.length:Int)+1) :
    rd (pre++x::(m++y::post)) i=x∧rd (pre++x::(m++y::post)) j=y∧((pre++x::(m++y::post)).set i.toNat y).set j.toNat x=(pre++[y])++m++x::post:=by
  have e:pre++x::(m++y::post)=(pre++x::m)++y::post:=by simp
  have e2:pre++y::(m++y::post)=(pre++y::m)++y::post:=by simp
  refine ⟨rd_app _ _ _ _ hi,?_,?_⟩
  · rw [e]
    exact rd_app _ _ _ _ (by simp only [List.length_append,List.length_cons];omega)
  · rw [set_app pre x y _ i.toNat (by omega),e2,set_app (pre++y::m) y x post j.toNat (by simp only [List.length_append,List.length_cons];omega)]
    simp
theorem rev_l0: ∀ (n:Nat) (pre m post:List Int) (i j:Int),m.length≤n→pre.length+m.length+post.length < 1000000→i=(pre.length:Int)→j=(pre.length:Int)+(m.length:Int) - 1 →
    Ev (fun k=>slices_Reverse_int_int.l0 k (pre++m++post) i j) (pre++m.reverse++post)
  | n,pre,m,post,i,j,hn,hl,hi,hj=>by
    refine Ev.succ ?_
    simp only [slices_Reverse_int_int.l0]
    rcases ends_or m with rfl|⟨x,rfl⟩|⟨x,m',y,rfl⟩
    · refine Ev.ifn (by simp only [List.length_nil] at hj;omega) (Ev.val (Ev.now _) (by simp))
    · refine Ev.ifn (by simp only [List.length_cons,List.length_nil] at hj;omega) (Ev.val (Ev.now _) (by simp))
    · simp only [List.length_cons,List.length_append,List.length_nil] at hj hl hn
      obtain ⟨n,rfl⟩: ∃ q,n=q+1:=⟨n - 1,by omega⟩
      have e:pre++x::(m'++[y])++post=pre++x::(m'++y::post):=by simp
      rw [e]
      obtain ⟨h1,h2,h3⟩:=swapped pre m' post x y i j hi (by omega)
      have hlen:((pre++x::(m'++y::post)).length:Int)=(pre.length:Int)+(m'.length:Int)+(post.length:Int)+2:=by simp only [List.length_append,List.length_cons];omega
      refine Ev.ifp (by omega) (Ev.ifp (by omega) (Ev.ifp (by omega) (Ev.ifp (by omega) (Ev.ifp (by omega) ?_))))
      rw [h1,h2,h3]
      have ih:=rev_l0 n (pre++[y]) m' (x::post) (wrap64 (i+1)) (wrap64 (j - 1)) (by omega) (by simp only [List.length_append,List.length_cons,List.length_nil];omega) (by rw [w64 (by omega) (by omega)];simp only [List.length_append,List.length_cons,List.length_nil];omega) (by rw [w64 (by omega) (by omega)];simp only [List.length_append,List.length_cons,List.length_nil];omega)
      refine Ev.val ih (by simp)
theorem rev_ev (l:List Int) (hl:l.length < 1000000):Ev (fun k=>slices_Reverse_int_int.f k l) l.reverse:=by
  unfold slices_Reverse_int_int.f
  have:=rev_l0 l.length [] l [] 0 (wrap64 ((l.length:Int) - 1)) (Nat.le_refl _) (by simp;omega) rfl (by rw [w64 (by omega) (by omega)];simp)
  rw [List.nil_append,List.append_nil] at this
  exact Ev.val this (by simp)
/-! ### stretches -/
def rv (lv:Int→Int) (a:Int):List Int→List Int→List Int
  | acc,[]=>acc
  | acc,x::t=>if lv x≥a then rv lv a (x::acc) t else acc++x::rv lv a [] t
def ps (lv:Int→Int):Nat→List Int→List Int
  | 0,s=>s
  | n+1,s=>rv lv (126 - (n:Int)) [] (ps lv n s)
theorem rv_nil (lv:Int→Int) (a:Int) (acc:List Int):rv lv a acc []=acc:=rfl
theorem rv_cons (lv:Int→Int) (a:Int) (acc:List Int) (x:Int) (t:List Int):rv lv a acc (x::t)=if lv x≥a then rv lv a (x::acc) t else acc++x::rv lv a [] t:=rfl
theorem ps_succ (lv:Int→Int) (n:Nat) (s:List Int):ps lv (n+1) s=rv lv (126 - (n:Int)) [] (ps lv n s):=rfl
theorem rv_perm (lv:Int→Int) (a:Int): ∀ (s acc:List Int),(rv lv a acc s).Perm (acc++s)
  | [],acc=>by
    unfold rv
    rw [List.append_nil]
  | x::t,acc=>by
    unfold rv
    split
    · exact (rv_perm lv a t (x::acc)).trans (List.perm_middle.symm)
    · have:=rv_perm lv a t []
      rw [List.nil_append] at this
      exact List.Perm.append_left acc (List.Perm.cons x this)
theorem ps_perm (lv:Int→Int): ∀ (n:Nat) (s:List Int),(ps lv n s).Perm s
  | 0,s=>List.Perm.refl _
  | n+1,s=>by
    have h:=rv_perm lv (126 - (n:Int)) (ps lv n s) []
    rw [List.nil_append] at h
    exact h.trans (ps_perm lv n s)
theorem rv_mid (lv:Int→Int) (a:Int) (x:Int) (b:List Int) (hx:lv x < a): ∀ (s acc:List Int),rv lv a acc (s++x::b)=rv lv a acc s++x::rv lv a [] b
  | [],acc=>by
    rw [List.nil_append,rv_cons,if_neg (by omega),rv_nil]
  | y::t,acc=>by
    rw [List.cons_append,rv_cons,rv_cons]
    split
    · exact rv_mid lv a x b hx t (y::acc)
    · rw [rv_mid lv a x b hx t [],List.append_assoc,List.cons_append]
theorem rv_all (lv:Int→Int) (a:Int): ∀ (s acc:List Int),(∀ x ∈ s,lv x≥a)→rv lv a acc s=s.reverse++acc
  | [],acc,h=>by simp [rv]
  | y::t,acc,h=>by
    unfold rv
    rw [if_pos (h y (by simp)),rv_all lv a t (y::acc) (fun x hx=>h x (by simp [hx]))]
    simp
theorem rv_low (lv:Int→Int) (a:Int): ∀ (s:List Int),(∀ x ∈ s,lv x < a)→rv lv a [] s=s
  | [],h=>rfl
  | y::t,h=>by
    unfold rv
    have:=h y (by simp)
    rw [if_neg (by omega),rv_low lv a t (fun x hx=>h x (by simp [hx]))]
    rfl
theorem ps_mid (lv:Int→Int) (x:Int) (n:Nat) (s b:List Int) (h:lv x < 127 - (n:Int)):ps lv n (s++x::b)=ps lv n s++x::ps lv n b:=by
  induction n with
  | zero=>rfl
  | succ n ih =>
    have h1:=ih (by omega)
    have h2:=rv_mid lv (126 - (n:Int)) x (ps lv n b) (by omega) (ps lv n s) []
    exact (congrArg (rv lv (126 - (n:Int)) []) h1).trans h2
theorem ps_nil (lv:Int→Int): ∀ (n:Nat),ps lv n []=[]
  | 0=>rfl
  | n+1=>by
    unfold ps
    rw [ps_nil lv n]
    rfl
theorem ps_cons (lv:Int→Int) (x:Int) (n:Nat) (b:List Int) (h:lv x < 127 - (n:Int)):ps lv n (x::b)=x::ps lv n b:=by
  have:=ps_mid lv x n [] b h
  rw [ps_nil] at this
  exact this
theorem ps_turn (lv:Int→Int) (n:Nat) (s:List Int) (h: ∀ x ∈ s,lv x≥126 - (n:Int)):ps lv (n+1) s=(ps lv n s).reverse:=by
  show rv lv (126 - (n:Int)) [] (ps lv n s)=_
  rw [rv_all lv _ _ _ (fun x hx=>h x ((ps_perm lv n s).mem_iff.1 hx)),List.append_nil]
theorem ps_low (lv:Int→Int): ∀ (n:Nat) (s:List Int),(∀ x ∈ s,lv x < 127 - (n:Int))→ps lv n s=s
  | 0,s,h=>rfl
  | n+1,s,h=>by
    unfold ps
    rw [ps_low lv n s (fun x hx=>by have:=h x hx;omega),rv_low lv _ _ (fun x hx=>by have:=h x hx;omega)]
/-! ### places -/
def rg (i:Nat):Nat→List Int
  | 0=>[]
  | m+1=>(i:Int)::rg (i+1) m
theorem rg_len: ∀ (m i:Nat),(rg i m).length=m
  | 0,i=>rfl
  | m+1,i=>by
    show (rg (i+1) m).length+1=_
    rw [rg_len]
theorem rg_app: ∀ (m i q:Nat),rg i (m+q)=rg i m++rg (i+m) q
  | 0,i,q=>by simp [rg]
  | m+1,i,q=>by
    rw [show m+1+q=(m+q)+1 by omega]
    show (i:Int)::rg (i+1) (m+q)=(i:Int)::(rg (i+1) m++rg (i+(m+1)) q)
    rw [rg_app m (i+1) q,show i+1+m=i+(m+1) by omega]
theorem rg_mem: ∀ (m i:Nat) (x:Int),x ∈ rg i m ↔ (i:Int)≤x∧x < (i:Int)+(m:Int)
  | 0,i,x=>by
    unfold rg
    simp only [List.not_mem_nil,false_iff]
    omega
  | m+1,i,x=>by
    unfold rg
    rw [List.mem_cons,rg_mem m (i+1) x]
    omega
theorem rg_nodup: ∀ (m i:Nat),(rg i m).Nodup
  | 0,i=>List.nodup_nil
  | m+1,i=>by
    unfold rg
    refine List.nodup_cons.2 ⟨fun h=>?_,rg_nodup m (i+1)⟩
    have:=(rg_mem m (i+1) _).1 h
    omega
/-! ### bidi.turn -/
section
variable (L : List Int) (hl : L.length < 100000) (hL : ∀ i : Nat, i < L.length → rd L (i : Int) ≤ 126)
include hl hL
theorem turn_ev: ∀ (n:Nat),n≤126→ ∀ (i e:Nat),i≤e→e≤L.length→Ev (fun k=>bidi_turn.f k L (i:Int) (e:Int) (127 - (n:Int))) (ps (fun x=>rd L x) n (rg i (e - i))):=by
  intro n hn
  induction n with
  | zero =>
    intro i e hie he
    have l0: ∀ (q i:Nat) (out:List Int),i+q=e→out.length+q < 1000000→Ev (fun k=>bidi_turn.l0 k L (e:Int) (127 - ((0:Nat):Int)) out (i:Int)) (out++rg i q):=by
      intro q
      induction q with
      | zero =>
        intro i out hq ho
        refine Ev.succ ?_
        simp only [bidi_turn.l0]
        exact Ev.ifn (by omega) (Ev.val (Ev.now _) (by simp [rg]))
      | succ q ih =>
        intro i out hq ho
        have h1:=hL i (by omega)
        refine Ev.succ ?_
        simp only [bidi_turn.l0]
        refine Ev.ifp (by omega) (Ev.succ ?_)
        simp only [bidi_turn.l1]
        refine Ev.ifp (by omega) (Ev.ifp (by omega) (Ev.ifp (by omega) (Ev.ifn (by omega) (Ev.succ ?_))))
        simp only [bidi_turn.j2]
        refine Ev.ifp trivial (Ev.ifp (by omega) ?_)
        rw [w64 (by omega) (by omega)]
        have:=ih (i+1) (out++[(i:Int)]) (by omega) (by simp only [List.length_append,List.length_cons,List.length_nil];omega)
        rw [show ((i+1:Nat):Int)=(i:Int)+1 by omega] at this
        exact Ev.val this (by simp [rg])
    refine Ev.succ ?_
    simp only [bidi_turn.f]
    exact Ev.val (l0 (e - i) i [] (by omega) (by simp only [List.length_nil];omega)) rfl
  | succ n ihn =>
    intro i e hie he
    have l0: ∀ (q i:Nat) (out:List Int),i≤e→e - i≤q→out.length+(e - i) < 1000000→Ev (fun k=>bidi_turn.l0 k L (e:Int) (127 - ((n+1:Nat):Int)) out (i:Int)) (out++ps (fun x=>rd L x) (n+1) (rg i (e - i))):=by
      intro q
      induction q with
      | zero =>
        intro i out hi hq ho
        refine Ev.succ ?_
        simp only [bidi_turn.l0]
        refine Ev.ifn (by omega) (Ev.val (Ev.now _) ?_)
        rw [show e - i=0 by omega]
        show out=out++ps _ _ []
        rw [ps_nil,List.append_nil]
      | succ q ih =>
        intro i out hi hq ho
        by_cases hie:i < e
        ·
          have one: ∀ (i:Nat) (out:List Int),i < e→e - i≤q+1→out.length+(e - i) < 1000000→rd L (i:Int) < 127 - ((n+1:Nat):Int)→Ev (fun k=>bidi_turn.l0 k L (e:Int) (127 - ((n+1:Nat):Int)) (out++[(i:Int)]) (wrap64 ((i:Int)+1))) (out++ps (fun x=>rd L x) (n+1) (rg i (e - i))):=by
            intro i out hi hq ho hlv
            rw [w64 (by omega) (by omega)]
            have:=ih (i+1) (out++[(i:Int)]) (by omega) (by omega) (by simp only [List.length_append,List.length_cons,List.length_nil];omega)
            rw [show ((i+1:Nat):Int)=(i:Int)+1 by omega] at this
            refine Ev.val this ?_
            rw [show e - i=(e - (i+1))+1 by omega]
            show _=out++ps _ (n+1) ((i:Int)::rg (i+1) (e - (i+1)))
            rw [ps_cons _ _ _ _ hlv]
            simp
          have fin:(∀ z:Nat,i≤z→z < e→rd L (z:Int)≥127 - ((n+1:Nat):Int))→Ev (fun k=>bidi_turn.l1 k L (e:Int) (127 - ((n+1:Nat):Int)) out (i:Int) (e:Int)) (out++ps (fun x=>rd L x) (n+1) (rg i (e - i))):=by
            intro h4
            refine Ev.succ ?_
            simp only [bidi_turn.l1]
            refine Ev.ifn (by omega) (Ev.succ ?_)
            simp only [bidi_turn.j2]
            refine Ev.ifn (by omega) ?_
            have hin:=ihn (by omega) i e (by omega) he
            rw [w64 (by omega) (by omega),show (127:Int) - ((n+1:Nat):Int)+1=127 - (n:Int) by omega]
            have hlen:(ps (fun x=>rd L x) n (rg i (e - i))).length=e - i:=by rw [(ps_perm _ _ _).length_eq,rg_len]
            refine Ev.bind hin (Ev.bind (rev_ev _ (by rw [hlen];omega)) (Ev.ifp (by rw [List.length_reverse,hlen];omega) (Ev.succ ?_)))
            simp only [bidi_turn.l0]
            refine Ev.ifn (by omega) (Ev.val (Ev.now _) ?_)
            rw [ps_turn _ n _ (fun x hx=>?_)]
            obtain ⟨h5,h6⟩:=(rg_mem _ _ _).1 hx
            have:=h4 x.toNat (by omega) (by omega)
            rw [Int.toNat_of_nonneg (by omega)] at this
            show rd L x≥_
            omega
          have l1: ∀ (r y:Nat),i≤y→y≤e→e - y≤r→(∀ z:Nat,i≤z→z < y→rd L (z:Int)≥127 - ((n+1:Nat):Int))→Ev (fun k=>bidi_turn.l1 k L (e:Int) (127 - ((n+1:Nat):Int)) out (i:Int) (y:Int)) (out++ps (fun x=>rd L x) (n+1) (rg i (e - i))):=by
            intro r
            induction r with
            | zero =>
              intro y h1 h2 h3 h4
              obtain rfl:y=e:=by omega
              exact fin h4
            | succ r ihr =>
              intro y h1 h2 h3 h4
              by_cases hye:y < e
              · refine Ev.succ ?_
                simp only [bidi_turn.l1]
                refine Ev.ifp (by omega) (Ev.ifp (by omega) (Ev.ifp (by omega) ?_))
                by_cases hlv:rd L (y:Int)≥127 - ((n+1:Nat):Int)
                · rw [w64 (by omega) (by omega)]
                  have:=ihr (y+1) (by omega) (by omega) (by omega) (fun z hz1 hz2=>by
                    by_cases hz:z=y
                    · rw [hz];exact hlv
                    · exact h4 z hz1 (by omega))
                  rw [show ((y+1:Nat):Int)=(y:Int)+1 by omega] at this
                  exact Ev.ifp hlv this
                · refine Ev.ifn hlv (Ev.succ ?_)
                  simp only [bidi_turn.j2]
                  by_cases hyi:y=i
                  · subst hyi
                    exact Ev.ifp rfl (Ev.ifp (by omega) (one y out hie (by omega) ho (by omega)))
                  · refine Ev.ifn (by omega) ?_
                    have hin:=ihn (by omega) i y (by omega) (by omega)
                    rw [w64 (by omega) (by omega),show (127:Int) - ((n+1:Nat):Int)+1=127 - (n:Int) by omega]
                    have hlen:(ps (fun x=>rd L x) n (rg i (y - i))).length=y - i:=by rw [(ps_perm _ _ _).length_eq,rg_len]
                    refine Ev.bind hin (Ev.bind (rev_ev _ (by rw [hlen];omega)) (Ev.ifp (by rw [List.length_reverse,hlen];omega) ?_))
                    refine Ev.val (ih y _ (by omega) (by omega) (by rw [List.length_append,List.length_reverse,hlen];omega)) ?_
                    have hsp:rg i (e - i)=rg i (y - i)++(y:Int)::rg (y+1) (e - (y+1)):=by
                      rw [show e - i=(y - i)+((e - (y+1))+1) by omega,rg_app,show i+(y - i)=y by omega]
                      rfl
                    have hsp2:rg y (e - y)=(y:Int)::rg (y+1) (e - (y+1)):=by
                      rw [show e - y=(e - (y+1))+1 by omega]
                      rfl
                    rw [hsp,hsp2,ps_mid _ (y:Int) (n+1) _ _ (by show rd L (y:Int) < _;omega),ps_cons _ (y:Int) (n+1) _ (by show rd L (y:Int) < _;omega),ps_turn _ n (rg i (y - i)) (fun x hx=>?_),List.append_assoc]
                    obtain ⟨h5,h6⟩:=(rg_mem _ _ _).1 hx
                    have:=h4 x.toNat (by omega) (by omega)
                    rw [Int.toNat_of_nonneg (by omega)] at this
                    show rd L x≥_
                    omega
              · obtain rfl:y=e:=by omega
                exact fin h4
          refine Ev.succ ?_
          simp only [bidi_turn.l0]
          exact Ev.ifp (by omega) (l1 (e - i) i (Nat.le_refl _) hi (Nat.le_refl _) (fun z h1 h2=>absurd h2 (by omega)))
        · refine Ev.succ ?_
          simp only [bidi_turn.l0]
          refine Ev.ifn (by omega) (Ev.val (Ev.now _) ?_)
          rw [show e - i=0 by omega]
          show out=out++ps _ _ []
          rw [ps_nil,List.append_nil]
    refine Ev.succ ?_
    simp only [bidi_turn.f]
    exact Ev.val (l0 (e - i) i [] hie (Nat.le_refl _) (by simp only [List.length_nil];omega)) rfl
end
/-! ### bidi.Order -/
def ctl (x:Int):Int:=mn (mx x 0) 126
theorem ctl_le (x:Int):ctl x≤126:=by
  unfold ctl mn
  split <;> omega
def lvl (L:List Int) (x:Int):Int:=rd (L.map ctl) x
def ord (L:List Int):List Int:=ps (lvl L) 126 (rg 0 L.length)
theorem ord_perm (L:List Int):(ord L).Perm (rg 0 L.length):=ps_perm _ _ _
theorem ord_len (L:List Int):(ord L).length=L.length:=by rw [(ord_perm L).length_eq,rg_len]
theorem ord_mem (L:List Int) (x:Int):x ∈ ord L ↔ 0≤x∧x < (L.length:Int):=by
  rw [(ord_perm L).mem_iff,rg_mem]
  simp
theorem rd_le (M:List Int) (b:Int) (h0:0≤b) (h: ∀ x ∈ M,x≤b) (i:Int):rd M i≤b:=by
  unfold rd
  rw [List.getD_eq_getElem?_getD]
  by_cases hi:i.toNat < M.length
  · rw [List.getElem?_eq_getElem hi]
    exact h _ (List.getElem_mem hi)
  · rw [List.getElem?_eq_none (by omega)]
    exact h0
theorem order_ev (L:List Int) (hl:L.length < 100000):Ev (fun k=>bidi_Order.f k L) (ord L):=by
  unfold bidi_Order.f
  refine Ev.bindc (show slices_Clone_int_int.f L=some L from if_pos (by omega)) ?_
  have l0: ∀ (t d:List Int),d++t.map ctl=L.map ctl→d.length+t.length=L.length→Ev (fun k=>bidi_Order.l0 k (d++t) (L.length:Int) (d.length:Int)) (ord L):=by
    intro t
    induction t with
    | nil =>
      intro d h1 h2
      refine Ev.succ ?_
      simp only [bidi_Order.l0]
      simp only [List.length_nil] at h2
      refine Ev.ifn (by omega) ?_
      rw [List.map_nil,List.append_nil] at h1
      rw [List.append_nil,h1]
      have hb: ∀ x ∈ L.map ctl,x≤126:=fun x hx=>by
        obtain ⟨y,_,rfl⟩:=List.mem_map.1 hx
        exact ctl_le y
      have:=turn_ev (L.map ctl) (by rw [List.length_map];exact hl) (fun i _=>rd_le _ 126 (by decide) hb _) 126 (Nat.le_refl _) 0 (L.map ctl).length (Nat.zero_le _) (Nat.le_refl _)
      refine Ev.bind this (Ev.val (Ev.now _) ?_)
      unfold ord
      rw [List.length_map,Nat.sub_zero]
      rfl
    | cons x t ih =>
      intro d h1 h2
      simp only [List.length_cons] at h2
      refine Ev.succ ?_
      simp only [bidi_Order.l0]
      refine Ev.ifp (by omega) (Ev.ifp (by omega) (Ev.ifp (by simp only [List.length_append,List.length_cons];omega) ?_))
      rw [rd_mid,set_app d x _ t _ (by omega),w64 (by omega) (by omega)]
      have:=ih (d++[ctl x]) (by rw [← h1];simp) (by simp only [List.length_append,List.length_cons,List.length_nil];omega)
      rw [List.append_assoc,show ((d++[ctl x]).length:Int)=(d.length:Int)+1 by simp] at this
      exact this
  have:=l0 L [] rfl (by simp)
  exact this
theorem ord_zero (n:Nat):ord (List.replicate n 0)=rg 0 n:=by
  unfold ord
  rw [List.length_replicate,ps_low]
  intro x hx
  have:lvl (List.replicate n 0) x≤0:=rd_le _ 0 (Int.le_refl _) (fun y hy=>by
    rw [List.map_replicate] at hy
    have:=List.eq_of_mem_replicate hy
    rw [this]
    decide) _
  omega
end Go.Proofs.Yteoaegigjlhamaa.PC19
