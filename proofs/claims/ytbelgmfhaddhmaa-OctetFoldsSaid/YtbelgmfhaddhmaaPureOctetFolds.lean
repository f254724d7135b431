/- OctetFolds: Lower, Fold and Trim are the reference's. -/
import Derived.Test.YtbelgmfhaddhmaaQ4
import Derived.Test.YtbelgmfhaddhmaaPureB
namespace Go.Proofs.Ytbelgmfhaddhmaa.Pure
open Go.RowKit Go.Proofs.Ytbelgmfhaddhmaa.Q Go.Proofs.YtbelgmfhaddhmaaW.PrintWords Go.Proofs.YtbelgmfhaddhmaaW.PrintLast Go.Proofs.YtbelgmfhaddhmaaW.PrintMore
theorem low_same (a b : ByteArray) : ((lowS a).toList == (lowS b).toList) = foldB a b := by
  rw [Bool.eq_iff_iff, beq_iff_eq, toList_iff, lowS_bytes, lowS_bytes, foldB, beq_iff_eq]
theorem OctetFolds : abutmentlaw01_OctetFolds.Pure := by
  intro a0 a1 h0 h1
  have hc := cut3_size a0
  have hc1 := cut3_size a1
  have he : Ev (fun k => abutmentlaw01_OctetFolds.f k a0 a1) true := by
    refine Ev.congr (f := fun k => (abutmentref01_Lower.f k (cut3 a0)).bind fun t134 => if (lowS (cut3 a0)).toList = t134.toList then ((octet_Fold.f k (cut3 a0) (cut3 a1)).bind fun t135 => ((abutmentref01_Lower.f k (cut3 a0)).bind fun t136 => ((abutmentref01_Lower.f k (cut3 a1)).bind fun t137 => if (t135 == (t136.toList == t137.toList)) = true then ((octet_Trim.f k (cut3 a0)).bind fun t138 => ((abutmentref01_Trim.f k (cut3 a0)).bind fun t139 => if t138.toList = t139.toList then ((abutmentlaw01_lives.f k).bind fun t140 => some t140) else some false)) else some false))) else some false) (fun k => ?_) ?_
    · unfold abutmentlaw01_OctetFolds.f
      rw [mn_min, mn_min, if_pos (by omega), if_pos (by omega), if_pos (by omega), if_pos (by omega)]
      simp only [Int.toNat_natCast]
      show (octet_Lower.f (cut3 a0)).bind _ = _
      rw [lower_f _ (by omega), Option.bind_some]
      rfl
    · refine Ev.bind (rlower_ev _ (by omega)) ?_
      simp only [if_true]
      refine Ev.bind (fold_ev _ _ (by omega)) ?_
      refine Ev.bind (rlower_ev _ (by omega)) ?_
      refine Ev.bind (rlower_ev _ (by omega)) ?_
      simp only [low_same, beq_self_eq_true, if_true]
      refine Ev.bind (trim_ev _ (by omega)) ?_
      refine Ev.bind (rtrim_ev _ (by omega)) ?_
      simp only [if_true]
      exact Ev.bind lives_ev (Ev.now _)
  exact he.rounds
end Go.Proofs.Ytbelgmfhaddhmaa.Pure
