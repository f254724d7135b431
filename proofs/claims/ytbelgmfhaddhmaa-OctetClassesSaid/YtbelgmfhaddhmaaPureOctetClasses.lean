/- OctetClasses: any octet, any text: the classes are the reference's. -/
import Derived.Test.YtbelgmfhaddhmaaQ3
import Derived.Test.YtbelgmfhaddhmaaPureA
namespace Go.Proofs.Ytbelgmfhaddhmaa.Pure
open Go.RowKit Go.Proofs.Ytbelgmfhaddhmaa.Q Go.Proofs.YtbelgmfhaddhmaaW.PrintWords Go.Proofs.YtbelgmfhaddhmaaW.PrintLast Go.Proofs.YtbelgmfhaddhmaaW.PrintMore
theorem OctetClasses : abutmentlaw01_OctetClasses.Pure := by
  intro a0 a1 h0 h1
  have hb : 0 ≤ a0 ∧ a0 ≤ 255 := by
    simp [Lit.wf] at h0
    exact ⟨h0.1, h0.2⟩
  have hc := cut3_size a1
  have he : Ev (fun k => abutmentlaw01_OctetClasses.f k a0 a1) true := by
    refine Ev.congr (f := fun k => (abutmentref01_Tchar.f k a0).bind fun t113 => if (tcI a0 == t113) = true then ((abutmentref01_Token.f k (cut3 a1)).bind fun t115 => if (tokenI (cut3 a1) == t115) = true then ((abutmentref01_Value.f k (cut3 a1)).bind fun t117 => if (valueI (cut3 a1) == t117) = true then ((abutmentref01_Visible.f k (cut3 a1)).bind fun t119 => if (visibleI (cut3 a1) == t119) = true then ((abutmentlaw01_lives.f k).bind fun t120 => some t120) else some false) else some false) else some false) else some false) (fun k => ?_) ?_
    · unfold abutmentlaw01_OctetClasses.f
      rw [mn_min, if_pos (by omega), if_pos (by omega)]
      simp only [octet_Tchar.f, octet_Token.f, octet_Value.f, octet_Visible.f, if_pos hb, Option.bind_some, Int.toNat_natCast]
      rfl
    · refine Ev.bind (tchar_ev a0 hb) ?_
      simp only [beq_self_eq_true, if_true]
      refine Ev.bind (token_ev _ (by omega)) ?_
      simp only [beq_self_eq_true, if_true]
      refine Ev.bind (value_ev _ (by omega)) ?_
      simp only [beq_self_eq_true, if_true]
      refine Ev.bind (visible_ev _ (by omega)) ?_
      simp only [beq_self_eq_true, if_true]
      exact Ev.bind lives_ev (Ev.now _)
  exact he.rounds
end Go.Proofs.Ytbelgmfhaddhmaa.Pure
