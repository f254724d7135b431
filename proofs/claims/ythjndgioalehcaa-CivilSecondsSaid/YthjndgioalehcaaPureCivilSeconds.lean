/- The law CivilSeconds at every input: its walk. -/
import Derived.Test.YthjndgioalehcaaQ6
import Derived.Test.YthjndgioalehcaaPureC
namespace Go.Proofs.Ythjndgioalehcaa.Pure
open Go.RowKit Go.Proofs.Ythjndgioalehcaa.Q Go.Proofs.YthjndgioalehcaaW.PrintWords Go.Proofs.YthjndgioalehcaaW.PrintLast
open Plain

theorem seconds_true (a b c d e f s : Int) (hs : (Lit.int .i64 s).wf = true) : ∃ k, abutmentlaw05_CivilSeconds.f k a b c d e f s = some true := by
  refine Ev.rounds ?_
  refine Ev.congr (f := fun k => (abutmentref05_Seconds.f k a b c d e f).bind fun r => if (secI a b c d e f).1 = r.1 then (if ((secI a b c d e f).2 == r.2) = true then some true else some false) else some false) (fun k => ?_) ?_
  · simp [abutmentlaw05_CivilSeconds.f, civil_Seconds.f, civil_Date.f, abutmentref05_Date.f, dateF_wf s hs, lives_yes]
  · refine Ev.bind (f := fun _ r => if (secI a b c d e f).1 = r.1 then (if ((secI a b c d e f).2 == r.2) = true then some true else some false) else some false) (rSeconds_is a b c d e f) ?_
    simp only [if_true, BEq.rfl]
    exact Ev.now _
theorem seconds_walk (a b c d e f s : Int) (w : World) (hs : (Lit.int .i64 s).wf = true) :
    Calls Try.prog 5 #[.agg #[.int .i64 a, .int .i64 b, .int .i64 c, .int .i64 d, .int .i64 e, .int .i64 f], .int .i64 s] w fun e w' => e = .returned (.bool true) ∧ Below w.heap.size w w' := by
  obtain ⟨k, hk⟩ := seconds_true a b c d e f s hs
  exact abutmentlaw05_CivilSeconds.calls k a b c d e f s true w hk
end Go.Proofs.Ythjndgioalehcaa.Pure
