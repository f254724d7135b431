/- ParamsParse: the plain law: what Parse tells is what the reference tells, and the examples of the document hold. -/
import Derived.Test.YtbelgmfhaddhmaaV9
import Derived.Test.YtbelgmfhaddhmaaPureV
namespace Go.Proofs.Ytbelgmfhaddhmaa.Pure
open Go.RowKit Go.Proofs.Ytbelgmfhaddhmaa.Q Go.Proofs.Ytbelgmfhaddhmaa.R Go.Proofs.Ytbelgmfhaddhmaa.V Go.Proofs.YtbelgmfhaddhmaaW.PrintWords Go.Proofs.YtbelgmfhaddhmaaW.PrintLast Go.Proofs.YtbelgmfhaddhmaaW.PrintMore
set_option linter.unusedVariables false
theorem ParamsParse : abutmentlaw08_ParamsParse.Pure := by
  intro a0 h0
  have hm : 0 ≤ mn (a0.size : Int) 1000 ∧ mn (a0.size : Int) 1000 ≤ (a0.size : Int) ∧ mn (a0.size : Int) 1000 ≤ 1000 := by unfold mn; split <;> omega
  obtain ⟨s, hs⟩ : ∃ s, s = a0.extract 0 (mn (a0.size : Int) 1000).toNat := ⟨_, rfl⟩
  have hz : s.size ≤ 1000 := by rw [hs, ByteArray.size_extract]; omega
  have he : Ev (fun k => abutmentlaw08_ParamsParse.f k a0) true := by
    unfold abutmentlaw08_ParamsParse.f
    rw [← hs]
    refine ev_pos hm.1 (ev_pos hm.2.1 ?_)
    rw [parse_f s (by omega)]
    refine Ev.congr (f := fun k => (abutmentref08_Parse.f k s).bind fun bt206 => (if (parseV s).1.toList = bt206.1.toList then ((abutmentref08_Same.f k (parseV s).2.1 bt206.2.1).bind fun t211 => (if t211 = true then (if (parseV s).2.2 = bt206.2.2 then ((abutmentlaw08_lives.f k).bind fun t212 => (some t212)) else (some false)) else (some false))) else (some false))) (fun k => rfl) ?_
    refine Ev.bind (rparse_ev s (by omega)) ?_
    refine ev_pos rfl ?_
    refine Ev.bind (rsame_ev _ ?_) ?_
    · show ((parseP s).2.1.map toS).length ≤ 1000000
      rw [List.length_map]
      have := parse_len s
      omega
    · refine ev_pos rfl (ev_pos rfl ?_)
      exact Ev.bind lives8_ev (Ev.now _)
  exact he.rounds
end Go.Proofs.Ytbelgmfhaddhmaa.Pure
