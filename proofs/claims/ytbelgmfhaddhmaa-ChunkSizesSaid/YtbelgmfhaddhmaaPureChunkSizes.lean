/- ChunkSizes: any chunk's line and the sizes of the chunks of any body are as specified, and the examples of the document hold: the plain law. -/
import Derived.Test.YtbelgmfhaddhmaaC6
import Derived.Test.YtbelgmfhaddhmaaPureC
namespace Go.Proofs.Ytbelgmfhaddhmaa.Pure
open Go.RowKit Go.Proofs.Ytbelgmfhaddhmaa.Q Go.Proofs.Ytbelgmfhaddhmaa.C Go.Proofs.YtbelgmfhaddhmaaW.PrintWords Go.Proofs.YtbelgmfhaddhmaaW.PrintLast Go.Proofs.YtbelgmfhaddhmaaW.PrintMore
set_option linter.unusedVariables false
theorem ChunkSizes : abutmentlaw14_ChunkSizes.Pure := by
  intro a0 a1 h0 h1
  simp [Lit.wf] at h0 h1
  have hL := Ev.bind (f := fun _ t => some t) lives14_ev (Ev.now true)
  have jt : Ev (fun k => abutmentlaw14_ChunkSizes.j0 k a0 a1 true) true := by
    refine Ev.step (f := fun k => (abutmentlaw14_lives.f k).bind fun t136 => (some t136)) (fun k => ?_) hL
    simp only [abutmentlaw14_ChunkSizes.j0]
    rw [if_pos trivial]
  have jf : Ev (fun k => abutmentlaw14_ChunkSizes.j0 k a0 a1 false) true := by
    have hs := szP_len a0 a1
    refine Ev.step (f := fun k => (if (lineS a0).toList = (lineS a0).toList then ((abutmentref14_Sizes.f k a0 a1).bind fun t142 => ((abutmentref01_SameInts.f k (szP a0 a1) t142).bind fun t145 => (if t145 = true then ((abutmentlaw14_lives.f k).bind fun t146 => (some t146)) else (some false)))) else (some false))) (fun k => ?_) (evc_pos rfl (Ev.bind (rsizes_ev a0 a1) (Ev.bind (sameI_ev _ (by omega)) (evc_pos rfl hL))))
    simp only [abutmentlaw14_ChunkSizes.j0, line_f a0 (by omega), rline_f a0 (by omega), sizes_f a0 a1 (by omega), Option.bind_some]
    rw [if_neg (by decide)]
  have he : Ev (fun k => abutmentlaw14_ChunkSizes.f k a0 a1) true := by
    unfold abutmentlaw14_ChunkSizes.f
    by_cases c : a0 > 2000
    · refine evc_pos c ?_
      cases decide (a0 ≤ 1048576) with
      | true => exact jt
      | false => exact jf
    · exact evc_neg c jf
  exact he.rounds
end Go.Proofs.Ytbelgmfhaddhmaa.Pure
