/- ClusterCut: wherever runes are cut ahead of a cluster, the clusters of both parts are those ahead of the cut, and those behind it (the pure statement over the printed Lean functions). Conditions: those of the statement. -/
import Derived.Test.YtgbkfjdkejjmpaaHK06
import Derived.Test.YtgbkfjdkejjmpaaPC06x19
namespace Go.Proofs.Ytgbkfjdkejjmpaa.Pure
open Go.RowKit Go.Proofs.Ytgbkfjdkejjmpaa.PC06 Go.Proofs.YtgbkfjdkejjmpaaW.PrintWords Go.Proofs.YtgbkfjdkejjmpaaW.PrintLast Go.Proofs.YtgbkfjdkejjmpaaH
set_option linter.unusedVariables false
open parquetrylaw06_ClusterCut (cl kv q front back same good aw)

theorem same_of {x y : Cl} (h : x = y) : same x y := by
  subst h
  exact ⟨rfl, rfl, rfl, rfl, rfl, rfl⟩
theorem aw_ev : Ev (fun k => aw k) true := by
  unfold parquetrylaw06_ClusterCut.aw
  exact Ev.bind awake_ev (Ev.ifp rfl (Ev.now _))
theorem flat_mem (l : List Rn) (gs : List (List Rn)) (h : ∀ g ∈ gs, g ∈ grp l) : ∀ r ∈ gs.flatten, r ∈ l := by
  intro r hr
  obtain ⟨g, hg, hrg⟩ := List.mem_flatten.1 hr
  rw [← grp_flat l]
  exact List.mem_flatten.2 ⟨g, h g hg, hrg⟩
theorem flat_len (gs : List (List Rn)) (k : Nat) : (gs.take k).flatten.length + (gs.drop k).flatten.length = gs.flatten.length := by
  rw [← List.length_append, ← List.flatten_append, List.take_append_drop]
theorem cut_good (l : List Rn) (e : Int) (hc : Q01.Chain 0 l e) (hl : l.length < 100000) (n : Int) (hk0 : 0 ≤ kv n (cls l)) (hk1 : kv n (cls l) < ((cls l).length : Int)) :
    front l (q n (cls l)) = ((grp l).take (kv n (cls l)).toNat).flatten ∧ back l (q n (cls l)) = ((grp l).drop (kv n (cls l)).toNat).flatten ∧
    good n l (cls l) (mks ((grp l).take (kv n (cls l)).toNat) 0) (mks ((grp l).drop (kv n (cls l)).toNat) 0) := by
  have hgl : (cls l).length = (grp l).length := mks_len _ _
  have hcl := cls_len l
  obtain ⟨h1, h2⟩ := cut_all l e hc (kv n (cls l)).toNat (by omega)
  have hf : front l (q n (cls l)) = ((grp l).take (kv n (cls l)).toNat).flatten := h1
  have hb : back l (q n (cls l)) = ((grp l).drop (kv n (cls l)).toNat).flatten := h2
  refine ⟨hf, hb, ?_⟩
  unfold parquetrylaw06_ClusterCut.good
  rw [hf]
  generalize hkk : kv n (cls l) = v at *
  obtain ⟨K, rfl⟩ := Int.eq_ofNat_of_zero_le hk0
  simp only [Int.toNat_natCast]
  have hK : K < (grp l).length := by omega
  have hfl := flat_len (grp l) K
  rw [grp_flat] at hfl
  have hsplit : cls l = mks ((grp l).take K) 0 ++ mks ((grp l).drop K) (0 + ((grp l).take K).flatten.length) := by
    unfold cls
    rw [← mks_app, List.take_append_drop]
  have la : (mks ((grp l).take K) 0).length = K := by rw [mks_len, List.length_take]; omega
  have lb : (mks ((grp l).drop K) 0).length = (grp l).length - K := by rw [mks_len, List.length_drop]
  refine ⟨by omega, by omega, hk0, hk1, by omega, by omega, fun i hi => ⟨fun h => same_of ?_, fun h => same_of ?_⟩⟩
  · unfold parquetrylaw06_ClusterCut.cl
    rw [hsplit, List.getD_eq_getElem?_getD, List.getD_eq_getElem?_getD, List.getElem?_append_left (by omega)]
  · have hm := mks_get ((grp l).drop K) 0 ((grp l).take K).flatten.length (i - K) (by rw [List.length_drop]; omega) (by omega)
    refine Eq.trans hm ?_
    unfold parquetrylaw06_ClusterCut.cl
    rw [hsplit, List.getD_eq_getElem?_getD, List.getD_eq_getElem?_getD, List.getElem?_append_right (by omega), la]
theorem ClusterCut : parquetrylaw06_ClusterCut.Pure := by
  intro s n hs hn
  obtain ⟨L, rfl⟩ := Q01.list_of s
  refine Ev.ex ?_
  unfold parquetrylaw06_ClusterCut.f
  rw [show ((ByteArray.mk ⟨L⟩).size : Int) = (L.length : Int) from rfl]
  by_cases h : (L.length : Int) > 600
  · exact Ev.ifp h awake_ev
  · have h1 := cls_len (Q01.runesOf L)
    have h2 := Q01.runesOf_len L
    have hok := runes_ok L (by omega)
    have hch := Q01.chain_of L
    refine Ev.ifn h (Ev.bindc (Q01.split_eq L (by omega)) (Ev.bindc (of_eq _ hok (by omega)) ?_))
    generalize Q01.runesOf L = l at *
    have hgl : (cls l).length = (grp l).length := mks_len _ _
    by_cases h0 : ((cls l).length : Int) = 0
    · refine Ev.ifp h0 (Ev.ifp ?_ aw_ev)
      have hg : grp l = [] := List.eq_nil_of_length_eq_zero (by omega)
      have := grp_flat l
      rw [hg] at this
      rw [← this]
      rfl
    · have e1 : bits .and .i64 n 65535 = n % 65536 := band n 65535 16 (by decide) (by decide)
      have hk : kv n (cls l) = (n % 65536) % ((cls l).length : Int) := by
        unfold parquetrylaw06_ClusterCut.kv
        rw [e1, Int.tmod_eq_emod_of_nonneg (by omega)]
      have hk0 : 0 ≤ kv n (cls l) := by rw [hk]; exact Int.emod_nonneg _ h0
      have hk1 : kv n (cls l) < ((cls l).length : Int) := by rw [hk]; exact Int.emod_lt_of_pos _ (by omega)
      obtain ⟨hf, hb, hg⟩ := cut_good l _ hch (by omega) n hk0 hk1
      have hfl := flat_len (grp l) (kv n (cls l)).toNat
      rw [grp_flat] at hfl
      rw [hf, hb]
      have oa := of_eq ((grp l).take (kv n (cls l)).toNat).flatten (fun r hr => hok r (flat_mem l _ (fun g hg => List.mem_of_mem_take hg) r hr)) (by omega)
      have ob := of_eq ((grp l).drop (kv n (cls l)).toNat).flatten (fun r hr => hok r (flat_mem l _ (fun g hg => List.mem_of_mem_drop hg) r hr)) (by omega)
      unfold cls at oa ob
      rw [grp_take] at oa
      rw [grp_drop] at ob
      exact Ev.ifn h0 (Ev.bindc oa (Ev.bindc ob (Ev.ifp hg aw_ev)))
end Go.Proofs.Ytgbkfjdkejjmpaa.Pure
