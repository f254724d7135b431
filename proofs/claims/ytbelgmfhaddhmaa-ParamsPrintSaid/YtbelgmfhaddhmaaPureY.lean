/- Parse's contract, the examples, Same: plain. -/
import Derived.Test.YtbelgmfhaddhmaaV4
import Derived.Test.YtbelgmfhaddhmaaPureU
namespace Go.Proofs.Ytbelgmfhaddhmaa.Pure
open Go.RowKit Go.Proofs.Ytbelgmfhaddhmaa.Q Go.Proofs.Ytbelgmfhaddhmaa.R Go.Proofs.Ytbelgmfhaddhmaa.V Go.Proofs.YtbelgmfhaddhmaaW.PrintWords Go.Proofs.YtbelgmfhaddhmaaW.PrintLast Go.Proofs.YtbelgmfhaddhmaaW.PrintMore
set_option linter.unusedVariables false

/-- What Parse tells, as the print has it. -/
def parseV (s : ByteArray) : ByteArray × List S70 × Int := ((parseP s).1, (parseP s).2.1.map toS, (parseP s).2.2)
theorem parse_f (s : ByteArray) (hs : s.size ≤ 100000000) : params_Parse.f s = some (parseV s) := by rw [params_Parse.f, if_pos hs]; rfl
theorem rsame_l0 (l : List S70) (hl : l.length ≤ 1000000) : ∀ n i : Nat, l.length - i = n → i ≤ l.length → Ev (fun k => abutmentref08_Same.l0 k l l (i : Int)) true := by
  intro n
  induction n with
  | zero =>
    intro i hn hi
    refine Ev.step (f := fun _ => some true) (fun k => ?_) (Ev.now _)
    simp only [abutmentref08_Same.l0]; rw [if_neg (by omega)]
  | succ n ih =>
    intro i hn hi
    refine Ev.step (f := fun k => abutmentref08_Same.l0 k l l ((i + 1 : Nat) : Int)) (fun k => ?_) (ih (i + 1) (by omega) (by omega))
    simp only [abutmentref08_Same.l0]
    rw [if_pos (by omega), if_pos (by omega), if_pos (by omega), if_neg (by simp), wI _ (by omega) (by omega)]
    rfl
theorem rsame_ev (l : List S70) (hl : l.length ≤ 1000000) : Ev (fun k => abutmentref08_Same.f k l l) true := by
  refine Ev.congr (f := fun k => abutmentref08_Same.l0 k l l ((0 : Nat) : Int)) (fun k => ?_) (rsame_l0 l hl _ 0 rfl (Nat.zero_le _))
  unfold abutmentref08_Same.f
  rw [if_pos rfl]; rfl
theorem parsAll_len : ∀ (n : Nat) (L : ByteArray) (l r : List (ByteArray × ByteArray)), L.size ≤ n → parsAll L l = some r → r.length ≤ l.length + L.size := by
  intro n
  induction n with
  | zero =>
    intro L l r h hr
    rw [parsAll_end L l (by omega)] at hr
    obtain rfl := Option.some.inj hr
    omega
  | succ n ih =>
    intro L l r h hr
    by_cases h0 : L.size = 0
    · rw [parsAll_end L l h0] at hr
      obtain rfl := Option.some.inj hr
      omega
    · cases hb : (oneP L).bad with
      | true => rw [parsAll_bad L l h0 hb] at hr; cases hr
      | false =>
        have hz := (oneP_size L).2 hb
        rw [parsAll_step L l h0 hb] at hr
        have := ih _ _ _ (by omega) hr
        rw [List.length_append, List.length_singleton] at this
        omega
theorem parse_len (s : ByteArray) : (parseP s).2.1.length ≤ s.size := by
  unfold parseP
  by_cases h0 : s.size = 0
  · rw [if_pos h0]; exact Nat.zero_le _
  · rw [if_neg h0]
    by_cases c : spn tcI s = 0
    · rw [if_pos c]; exact Nat.zero_le _
    · rw [if_neg c]
      have hle := spn_le tcI s
      cases hp : parsAll (ofs s (spn tcI s)) [] with
      | none => exact Nat.zero_le _
      | some l =>
        have := parsAll_len _ _ _ _ (Nat.le_refl _) hp
        rw [ofs_size _ _ hle, List.length_nil] at this
        show l.length ≤ s.size
        omega
theorem lives8_ev : Ev (fun k => abutmentlaw08_lives.f k) true := by
  refine Ev.of (k := 10) (fun k => abutmentlaw08_lives.mono k) ?_
  decide +kernel
end Go.Proofs.Ytbelgmfhaddhmaa.Pure
