/- The contract of civil.Long (its table is an array, which the print does not take), in the print's own form. -/
import Derived.Test.YthjndgioalehcaaProg
import Derived.WalkKit
import Derived.WalkSpells
import Derived.WalkLawsBesides
import Derived.KernelRfl
import Derived.Lib.Hide
import Derived.Test.YthjndgioalehcaaWWords
namespace Go.Proofs.Ythjndgioalehcaa.Q
open Go.RowKit Go.Proofs.YthjndgioalehcaaW.PrintWords

def leapB (y : Int) : Bool := (Int.tmod y 4 == 0) && (!(Int.tmod y 100 == 0) || (Int.tmod y 400 == 0))

set_option maxHeartbeats 400000 in
theorem leap_any (y : Int) (w : World) : Calls Try.prog 9 #[.int .i64 y] w fun e w' => e = .returned (.bool (leapB y)) ∧ w = w' := by
  by_cases c1 : Int.tmod y 4 = 0
  · by_cases c2 : Int.tmod y 100 = 0
    · have c1b : (Int.tmod y 4 == 0) = true := beq_iff_eq.mpr c1
      have c2b : (Int.tmod y 100 != 0) = false := bne_eq_false_iff_eq.mpr c2
      have hl : leapB y = (Int.tmod y 400 == 0) := by simp [leapB, c1, c2]
      rw [hl]
      clear c1 c2 hl
      go_enter Try.func9, Try.ntmps9
      go_wp2
      go_ret
      exact ⟨rfl, rfl⟩
    · have c1b : (Int.tmod y 4 == 0) = true := beq_iff_eq.mpr c1
      have c2b : (Int.tmod y 100 != 0) = true := bne_iff_ne.mpr c2
      have hl : leapB y = true := by simp [leapB, c1, c2]
      rw [hl]
      clear c1 hl
      go_enter Try.func9, Try.ntmps9
      go_wp2
      go_ret
      exact ⟨rfl, rfl⟩
  · have c1b : (Int.tmod y 4 == 0) = false := beq_eq_false_iff_ne.mpr c1
    have hl : leapB y = false := by simp [leapB, c1]
    rw [hl]
    clear hl
    go_enter Try.func9, Try.ntmps9
    go_wp2
    go_ret
    exact ⟨rfl, rfl⟩

/-- How long a month is, a year with a day more put aside. -/
def tbl (m : Int) : Int := if m = 2 then 28 else if m = 4 ∨ m = 6 ∨ m = 9 ∨ m = 11 then 30 else 31
def longI (y m : Int) : Int := if m < 1 ∨ 12 < m then 0 else if m = 2 ∧ leapB y = true then 29 else tbl m
def civil_Long.f (a0 : Int) (a1 : Int) : Option (Int) := some (longI a0 a1)

theorem idx (m : Int) (h0 : 1 ≤ m) (h1 : m ≤ 12) (w : World) : (Instr.index 38 (.agg #[.int .i64 31, .int .i64 28, .int .i64 31, .int .i64 30, .int .i64 31, .int .i64 30, .int .i64 31, .int .i64 31, .int .i64 30, .int .i64 31, .int .i64 30, .int .i64 31]) (.int .i64 (m - 1))).run Try.prog w = .ok (.int .i64 (tbl m)) w := by
  have h : m = 1 ∨ m = 2 ∨ m = 3 ∨ m = 4 ∨ m = 5 ∨ m = 6 ∨ m = 7 ∨ m = 8 ∨ m = 9 ∨ m = 10 ∨ m = 11 ∨ m = 12 := by omega
  rcases h with rfl | rfl | rfl | rfl | rfl | rfl | rfl | rfl | rfl | rfl | rfl | rfl <;> rfl

set_option maxHeartbeats 400000 in
theorem lengths_any (w : World) : Calls Try.prog 24 #[] w fun e w' => e = .returned (.agg #[.int .i64 31, .int .i64 28, .int .i64 31, .int .i64 30, .int .i64 31, .int .i64 30, .int .i64 31, .int .i64 31, .int .i64 30, .int .i64 31, .int .i64 30, .int .i64 31]) ∧ Below w.heap.size w w' := by
  go_enter Try.func24, Try.ntmps24
  go_wp2
  exact bodyPost_ret (v := .agg #[.int .i64 31, .int .i64 28, .int .i64 31, .int .i64 30, .int .i64 31, .int .i64 30, .int .i64 31, .int .i64 31, .int .i64 30, .int .i64 31, .int .i64 30, .int .i64 31]) (by simp [results, Try.results24, go_sem]) rfl ⟨rfl, (Below.refl _ _).alloc (Nat.le_refl _) _⟩

set_option maxHeartbeats 400000 in
theorem civil_Long.calls (a0 : Int) (a1 : Int) (r : Int) (w : World) (h : civil_Long.f a0 a1 = some r) :
    Calls Try.prog 11 #[.int .i64 a0, .int .i64 a1] w fun e w' => e = .returned (.int .i64 r) ∧ Below w.heap.size w w' := by
  obtain rfl := Option.some.inj h
  clear h
  by_cases c1 : a1 < 1
  · rw [show longI a0 a1 = 0 from if_pos (.inl c1)]
    go_enter Try.func11, Try.ntmps11
    go_wp2
    go_ret
    exact ⟨rfl, Below.refl _ _⟩
  · by_cases c2 : 12 < a1
    · rw [show longI a0 a1 = 0 from if_pos (.inr c2)]
      go_enter Try.func11, Try.ntmps11
      go_wp2
      go_ret
      exact ⟨rfl, Below.refl _ _⟩
    · have hx := idx a1 (by omega) (by omega)
      have hl : longI a0 a1 = if a1 = 2 ∧ leapB a0 = true then 29 else tbl a1 := if_neg (by omega)
      rw [hl]
      clear hl
      by_cases c3 : a1 = 2
      · subst c3
        have hx1 : ∀ w, (Instr.index 38 (.agg #[.int .i64 31, .int .i64 28, .int .i64 31, .int .i64 30, .int .i64 31, .int .i64 30, .int .i64 31, .int .i64 31, .int .i64 30, .int .i64 31, .int .i64 30, .int .i64 31]) (.int .i64 1)).run Try.prog w = .ok (.int .i64 28) w := fun w => rfl
        clear hx
        rw [show tbl 2 = 28 from rfl]
        cases hb : leapB a0 with
        | true =>
          have HB := Lib.hid hb
          clear hb
          simp only [and_self, if_true]
          go_enter Try.func11, Try.ntmps11
          go_wp2_with (go_at_call 9; refine (leap_any _ _).mono ?_; rw [HB.out]; rintro e w' ⟨rfl, rfl⟩)
          go_ret
          exact ⟨rfl, Below.refl _ _⟩
        | false =>
          have HB := Lib.hid hb
          clear hb
          simp only [Bool.false_eq_true, and_false, if_false]
          go_enter Try.func11, Try.ntmps11
          go_wp2_with (first | (go_at_call 9; refine (leap_any _ _).mono ?_; rw [HB.out]; rintro e w' ⟨rfl, rfl⟩) | (go_at_call 24; refine (lengths_any _).mono ?_; rintro e w' ⟨rfl, hb⟩))
          go_ret
          exact ⟨rfl, hb⟩
      · have c3b : (a1 == 2) = false := beq_eq_false_iff_ne.mpr c3
        rw [if_neg (fun h => c3 h.1)]
        clear c3
        go_enter Try.func11, Try.ntmps11
        go_wp2_with (go_at_call 24; refine (lengths_any _).mono ?_; rintro e w' ⟨rfl, hb⟩)
        go_ret
        exact ⟨rfl, hb⟩

end Go.Proofs.Ythjndgioalehcaa.Q
