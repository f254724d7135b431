-- Written by a program of this session (ownprint.py) out of the translation. Not trusted: Lean checks it.
import Derived.Test.YtbelgmfhaddhmaaV0
import Derived.Test.YtbelgmfhaddhmaaV3
import Derived.Test.YtbelgmfhaddhmaaV4
import Derived.Test.YtbelgmfhaddhmaaQ2
import Derived.Test.YtbelgmfhaddhmaaR2
namespace Go.Proofs.Ytbelgmfhaddhmaa.V
open Go.Proofs.Ytbelgmfhaddhmaa.Q Go.Proofs.Ytbelgmfhaddhmaa.R
open Go.RowKit Go.Proofs.YtbelgmfhaddhmaaW.PrintWords Go.Proofs.YtbelgmfhaddhmaaW.PrintLast Go.Proofs.YtbelgmfhaddhmaaW.PrintMore
attribute [local go_sem] max2_int min2_int max_two min_two max_three min_three max_four min_four   -- for this text's walks alone
set_option linter.unusedVariables false
set_option linter.unusedSimpArgs false

/-! ### abutmentref08_Print: function 69 -/
def abutmentref08_Print.l0 : Nat → List (S70) → ByteArray → Bool → Int → Option (ByteArray × Bool)
  | 0, _, _, _, _ => none
  | k + 1, x1, x6, x7, x8 => if x8 < (x1.length : Int) then (if x7 = true then (if 0 ≤ x8 then ((abutmentref01_Token.f k ((rd_T70 x1 x8).f0)).bind fun t129 => (if x6.size + 1 ≤ 9223372036854775807 then (if (x6 ++ (⟨#[59]⟩ : ByteArray)).size + ((rd_T70 x1 x8).f0).size ≤ 9223372036854775807 then (if ((rd_T70 x1 x8).f1).toList = ([] : List UInt8) then (abutmentref08_Print.l0 k x1 ((x6 ++ (⟨#[59]⟩ : ByteArray)) ++ ((rd_T70 x1 x8).f0)) t129 (wrap64 (x8 + 1))) else ((abutmentref04_Quote.f k ((rd_T70 x1 x8).f1)).bind fun bt133 => (if ((x6 ++ (⟨#[59]⟩ : ByteArray)) ++ ((rd_T70 x1 x8).f0)).size + 1 ≤ 9223372036854775807 then (if (((x6 ++ (⟨#[59]⟩ : ByteArray)) ++ ((rd_T70 x1 x8).f0)) ++ (⟨#[61]⟩ : ByteArray)).size + bt133.1.size ≤ 9223372036854775807 then (if t129 = true then (abutmentref08_Print.l0 k x1 ((((x6 ++ (⟨#[59]⟩ : ByteArray)) ++ ((rd_T70 x1 x8).f0)) ++ (⟨#[61]⟩ : ByteArray)) ++ bt133.1) bt133.2 (wrap64 (x8 + 1))) else (abutmentref08_Print.l0 k x1 ((((x6 ++ (⟨#[59]⟩ : ByteArray)) ++ ((rd_T70 x1 x8).f0)) ++ (⟨#[61]⟩ : ByteArray)) ++ bt133.1) false (wrap64 (x8 + 1)))) else (none)) else (none)))) else (none)) else (none))) else (none)) else (if x6.size + 1 ≤ 9223372036854775807 then (if 0 ≤ x8 then (if (x6 ++ (⟨#[59]⟩ : ByteArray)).size + ((rd_T70 x1 x8).f0).size ≤ 9223372036854775807 then (if ((rd_T70 x1 x8).f1).toList = ([] : List UInt8) then (abutmentref08_Print.l0 k x1 ((x6 ++ (⟨#[59]⟩ : ByteArray)) ++ ((rd_T70 x1 x8).f0)) false (wrap64 (x8 + 1))) else ((abutmentref04_Quote.f k ((rd_T70 x1 x8).f1)).bind fun bt138 => (if ((x6 ++ (⟨#[59]⟩ : ByteArray)) ++ ((rd_T70 x1 x8).f0)).size + 1 ≤ 9223372036854775807 then (if (((x6 ++ (⟨#[59]⟩ : ByteArray)) ++ ((rd_T70 x1 x8).f0)) ++ (⟨#[61]⟩ : ByteArray)).size + bt138.1.size ≤ 9223372036854775807 then (abutmentref08_Print.l0 k x1 ((((x6 ++ (⟨#[59]⟩ : ByteArray)) ++ ((rd_T70 x1 x8).f0)) ++ (⟨#[61]⟩ : ByteArray)) ++ bt138.1) false (wrap64 (x8 + 1))) else (none)) else (none)))) else (none)) else (none)) else (none))) else (if x7 = true then (some (x6, true)) else (some ((⟨#[]⟩ : ByteArray), false)))
def abutmentref08_Print.f (k : Nat) (a0 : ByteArray) (l1 : List (S70)) : Option (ByteArray × Bool) := (abutmentref01_Token.f k a0).bind fun t127 => (abutmentref08_Print.l0 k l1 a0 t127 0)
theorem abutmentref08_Print.mono_l : ∀ k, (∀ y0 y1 y2 y3, LeO (abutmentref08_Print.l0 k y0 y1 y2 y3) (abutmentref08_Print.l0 (k + 1) y0 y1 y2 y3))
  | 0 => fun _ _ _ _ r h => by simp [abutmentref08_Print.l0] at h
  | k + 1 => by
    have ih0 := abutmentref08_Print.mono_l k
    · intro y0 y1 y2 y3
      unfold abutmentref08_Print.l0
      repeat' first
      | (with_reducible exact ih0 _ _ _ _)
      | (with_reducible exact abutmentref01_Token.mono _ _)
      | (with_reducible exact abutmentref04_Quote.mono _ _)
      | (with_reducible exact LeO.refl _)
      | (with_reducible exact LeO.none _)
      | (with_reducible refine LeO.ite ?_ ?_)
      | (with_reducible refine LeO.bind ?_ (fun _ => ?_))
      | exact ih0 _ _ _ _
      | exact abutmentref01_Token.mono _ _
      | exact abutmentref04_Quote.mono _ _
      | exact LeO.none _
      | refine LeO.ite ?_ ?_
      | refine LeO.bind ?_ (fun _ => ?_)
theorem abutmentref08_Print.mono : ∀ a0 a1 k, LeO (abutmentref08_Print.f k a0 a1) (abutmentref08_Print.f (k + 1) a0 a1) := by
  intro a0 a1 k
  have ih0 := abutmentref08_Print.mono_l k
  unfold abutmentref08_Print.f
  repeat' first
      | (with_reducible exact ih0 _ _ _ _)
      | (with_reducible exact abutmentref01_Token.mono _ _)
      | (with_reducible exact abutmentref04_Quote.mono _ _)
      | (with_reducible exact LeO.refl _)
      | (with_reducible exact LeO.none _)
      | (with_reducible refine LeO.ite ?_ ?_)
      | (with_reducible refine LeO.bind ?_ (fun _ => ?_))
      | exact ih0 _ _ _ _
      | exact abutmentref01_Token.mono _ _
      | exact abutmentref04_Quote.mono _ _
      | exact LeO.none _
      | refine LeO.ite ?_ ?_
      | refine LeO.bind ?_ (fun _ => ?_)
set_option maxHeartbeats 8000000 in
set_option maxRecDepth 100000 in
theorem abutmentref08_Print.calls (k : Nat) (a0 : ByteArray) (A1 : Option Addr) (c1 : Nat) (l1 : List (S70)) (r1 : ByteArray) (r2 : Bool) (w : World) (hr1 : Kd.C k70 w A1 l1.length l1) (hc1 : l1.length ≤ c1) (h : abutmentref08_Print.f k a0 l1 = some (r1, r2)) :
    Calls Try.prog 69 #[.string a0, .slice A1 l1.length c1] w fun e w' => e = .returned (.tuple #[.string r1, .bool r2]) ∧ Drawn0 w w' := by
  have HR1 := Aside0.mk hr1
  have HC1 := Aside0.mk hc1
  clear hr1 hc1
  have H : ((abutmentref01_Token.f k a0).bind fun t127 => (abutmentref08_Print.l0 k l1 a0 t127 0)) = some (r1, r2) := h
  clear h
  replace H := Option.bind_eq_some_iff.mp H
  obtain ⟨t127, A30, H⟩ := H
  replace H : (abutmentref08_Print.l0 k l1 a0 t127 0) = some (r1, r2) := H
  have A3 := Aside0.mk A30
  clear A30
  have H' := Aside0.mk H
  clear H
  go_enter Try.func69, Try.ntmps69
  go_wp2_with (first | ((with_reducible refine gate_callee (f := 35) rfl ?_); refine goesL_ (some 13) rfl rfl Try.func35 (by kernel_rfl) rfl #[.string a0] rfl (by (try simp only [List.map_toArray, List.map_cons, List.map_nil]); first | done | rfl | (simp only [List.length_drop, List.length_take]; rfl)) ?_; (with_reducible refine (abutmentref01_Token.calls k a0 t127 _ A3.out).mono ?_); rintro e w' ⟨rfl, ⟨nd, rfl⟩⟩; refine ⟨_, rfl, ?_⟩))
  go_loopg [6, 7, 8] k (fun kq v6 v7 v8 w' => ∃ (x6_1 : ByteArray) (x7_1 : Bool) (x8_1 : Int), v6 = .string x6_1 ∧ v7 = .bool x7_1 ∧ v8 = .int .i64 x8_1 ∧ Aside0 (abutmentref08_Print.l0 kq l1 x6_1 x7_1 x8_1 = some (r1, r2)) ∧ Aside0 (kq ≤ k) ∧ Drawn0 w w')
  case atStart => exact ⟨(a0), (t127), (0), (by first | rfl | (simp; done) | (simp [*]; done)), (by first | rfl | (simp; done) | (simp [*]; done)), (by first | rfl | (simp; done) | (simp [*]; done)), H', ⟨Nat.le_refl _⟩, by repeat (first | exact Drawn0.refl _ | apply Drawn0.step)⟩
  case round =>
    clear H'
    try clear c1
    try clear p2
    try clear c3
    obtain ⟨x6_1, x7_1, x8_1, rfl, rfl, rfl, HA, HK1, ⟨m1, rfl⟩⟩ := hrel
    cases gk with
    | zero => exact absurd HA.out (by simp [abutmentref08_Print.l0])
    | succ k1 =>
      have H := HA.out
      clear HA
      simp only [abutmentref08_Print.l0] at H
      by_cases c4 : x8_1 < (l1.length : Int)
      · rw [if_pos c4] at H
        have c4b0 : decide (x8_1 < (l1.length : Int)) = true := decide_eq_true c4
        clear c4
        by_cases c5 : x7_1 = true
        · subst c5
          have H1 : (if 0 ≤ x8_1 then ((abutmentref01_Token.f k1 ((rd_T70 l1 x8_1).f0)).bind fun t129 => (if x6_1.size + 1 ≤ 9223372036854775807 then (if (x6_1 ++ (⟨#[59]⟩ : ByteArray)).size + ((rd_T70 l1 x8_1).f0).size ≤ 9223372036854775807 then (if ((rd_T70 l1 x8_1).f1).toList = ([] : List UInt8) then (abutmentref08_Print.l0 k1 l1 ((x6_1 ++ (⟨#[59]⟩ : ByteArray)) ++ ((rd_T70 l1 x8_1).f0)) t129 (wrap64 (x8_1 + 1))) else ((abutmentref04_Quote.f k1 ((rd_T70 l1 x8_1).f1)).bind fun bt133 => (if ((x6_1 ++ (⟨#[59]⟩ : ByteArray)) ++ ((rd_T70 l1 x8_1).f0)).size + 1 ≤ 9223372036854775807 then (if (((x6_1 ++ (⟨#[59]⟩ : ByteArray)) ++ ((rd_T70 l1 x8_1).f0)) ++ (⟨#[61]⟩ : ByteArray)).size + bt133.1.size ≤ 9223372036854775807 then (if t129 = true then (abutmentref08_Print.l0 k1 l1 ((((x6_1 ++ (⟨#[59]⟩ : ByteArray)) ++ ((rd_T70 l1 x8_1).f0)) ++ (⟨#[61]⟩ : ByteArray)) ++ bt133.1) bt133.2 (wrap64 (x8_1 + 1))) else (abutmentref08_Print.l0 k1 l1 ((((x6_1 ++ (⟨#[59]⟩ : ByteArray)) ++ ((rd_T70 l1 x8_1).f0)) ++ (⟨#[61]⟩ : ByteArray)) ++ bt133.1) false (wrap64 (x8_1 + 1)))) else (none)) else (none)))) else (none)) else (none))) else (none)) = some (r1, r2) := by rw [if_pos rfl] at H; exact H
          clear H
          have H := H1
          clear H1
          by_cases c6 : 0 ≤ x8_1
          · rw [if_pos c6] at H
            have c6b0 : decide (0 ≤ x8_1) = true := decide_eq_true c6
            clear c6
            replace H := Option.bind_eq_some_iff.mp H
            obtain ⟨t129, A70, H⟩ := H
            replace H : (if x6_1.size + 1 ≤ 9223372036854775807 then (if (x6_1 ++ (⟨#[59]⟩ : ByteArray)).size + ((rd_T70 l1 x8_1).f0).size ≤ 9223372036854775807 then (if ((rd_T70 l1 x8_1).f1).toList = ([] : List UInt8) then (abutmentref08_Print.l0 k1 l1 ((x6_1 ++ (⟨#[59]⟩ : ByteArray)) ++ ((rd_T70 l1 x8_1).f0)) t129 (wrap64 (x8_1 + 1))) else ((abutmentref04_Quote.f k1 ((rd_T70 l1 x8_1).f1)).bind fun bt133 => (if ((x6_1 ++ (⟨#[59]⟩ : ByteArray)) ++ ((rd_T70 l1 x8_1).f0)).size + 1 ≤ 9223372036854775807 then (if (((x6_1 ++ (⟨#[59]⟩ : ByteArray)) ++ ((rd_T70 l1 x8_1).f0)) ++ (⟨#[61]⟩ : ByteArray)).size + bt133.1.size ≤ 9223372036854775807 then (if t129 = true then (abutmentref08_Print.l0 k1 l1 ((((x6_1 ++ (⟨#[59]⟩ : ByteArray)) ++ ((rd_T70 l1 x8_1).f0)) ++ (⟨#[61]⟩ : ByteArray)) ++ bt133.1) bt133.2 (wrap64 (x8_1 + 1))) else (abutmentref08_Print.l0 k1 l1 ((((x6_1 ++ (⟨#[59]⟩ : ByteArray)) ++ ((rd_T70 l1 x8_1).f0)) ++ (⟨#[61]⟩ : ByteArray)) ++ bt133.1) false (wrap64 (x8_1 + 1)))) else (none)) else (none)))) else (none)) else (none)) = some (r1, r2) := H
            have A7 := Aside0.mk A70
            clear A70
            by_cases c8 : x6_1.size + 1 ≤ 9223372036854775807
            · rw [if_pos c8] at H
              have c8b0 := eq_true c8
              have c8b1 : decide (x6_1.size + 1 ≤ 9223372036854775807) = true := decide_eq_true c8
              try have c8b2 : (9223372036854775807 < x6_1.size + 1) = False := eq_false (Nat.not_lt.2 c8)
              by_cases c9 : (x6_1 ++ (⟨#[59]⟩ : ByteArray)).size + ((rd_T70 l1 x8_1).f0).size ≤ 9223372036854775807
              · rw [if_pos c9] at H
                have c9b0 := eq_true c9
                have c9b1 : decide ((x6_1 ++ (⟨#[59]⟩ : ByteArray)).size + ((rd_T70 l1 x8_1).f0).size ≤ 9223372036854775807) = true := decide_eq_true c9
                try have c9b2 : (9223372036854775807 < (x6_1 ++ (⟨#[59]⟩ : ByteArray)).size + ((rd_T70 l1 x8_1).f0).size) = False := eq_false (Nat.not_lt.2 c9)
                try (have c9b3 := c9b2; simp only [ByteArray.size_append, (show ∀ a : UInt8, (⟨#[a]⟩ : ByteArray).size = 1 from fun _ => rfl)] at c9b3)
                by_cases c10 : ((rd_T70 l1 x8_1).f1).toList = ([] : List UInt8)
                · rw [if_pos c10] at H
                  have c10b0 : (((rd_T70 l1 x8_1).f1).toList == ([] : List UInt8)) = true := beq_iff_eq.mpr c10
                  have c10b1 : (((rd_T70 l1 x8_1).f1).toList != ([] : List UInt8)) = false := bne_eq_false_iff_eq.mpr c10
                  clear c10
                  have H' := Aside0.mk H
                  clear H
                  have p128 : 0 ≤ (x8_1 : Int) := of_decide_eq_true (by first | (with_reducible assumption) | assumption)
                  have q128 : x8_1 < (l1.length : Int) := of_decide_eq_true (by first | (with_reducible assumption) | assumption)
                  obtain ⟨ad128, e128, hx128_0, hx128_1⟩ := at_T70 HR1.out x8_1 p128 q128
                  cases e128
                  replace p128 := eq_true p128
                  replace q128 := eq_true q128
                  go_wp2_with (first | (go_at_call 35; (with_reducible refine (abutmentref01_Token.calls k1 ((rd_T70 l1 x8_1).f0) t129 _ A7.out).mono ?_); rintro e w' ⟨rfl, ⟨nd, rfl⟩⟩; have p130 : 0 ≤ (x8_1 : Int) := of_decide_eq_true (by first | (with_reducible assumption) | assumption); have q130 : x8_1 < (l1.length : Int) := of_decide_eq_true (by first | (with_reducible assumption) | assumption); obtain ⟨ad130, e130, hx130_0, hx130_1⟩ := at_T70 HR1.out x8_1 p130 q130; obtain rfl : ad128 = ad130 := (by injection e130); replace p130 := eq_true p130; replace q130 := eq_true q130; have p131 : 0 ≤ (x8_1 : Int) := of_decide_eq_true (by first | (with_reducible assumption) | assumption); have q131 : x8_1 < (l1.length : Int) := of_decide_eq_true (by first | (with_reducible assumption) | assumption); obtain ⟨ad131, e131, hx131_0, hx131_1⟩ := at_T70 HR1.out x8_1 p131 q131; obtain rfl : ad128 = ad131 := (by injection e131); replace p131 := eq_true p131; replace q131 := eq_true q131))
                  go_roundg k1
                  case measure => have := HK1.out; omega
                  case rel => exact ⟨((x6_1 ++ (⟨#[59]⟩ : ByteArray)) ++ ((rd_T70 l1 x8_1).f0)), (t129), (wrap64 (x8_1 + 1)), (by first | rfl | (simp; done) | (simp [*]; done)), (by first | rfl | (simp; done) | (simp [*]; done)), (by first | rfl | (simp; done) | (simp [*]; done)), H', ⟨by have := HK1.out; omega⟩, by repeat (first | exact Drawn0.refl _ | apply Drawn0.step)⟩
                · rw [if_neg c10] at H
                  have c10b0 : (((rd_T70 l1 x8_1).f1).toList == ([] : List UInt8)) = false := beq_eq_false_iff_ne.mpr c10
                  have c10b1 : (((rd_T70 l1 x8_1).f1).toList != ([] : List UInt8)) = true := bne_iff_ne.mpr c10
                  replace H := Option.bind_eq_some_iff.mp H
                  obtain ⟨⟨t133, t134⟩, A110, H⟩ := H
                  replace H : (if ((x6_1 ++ (⟨#[59]⟩ : ByteArray)) ++ ((rd_T70 l1 x8_1).f0)).size + 1 ≤ 9223372036854775807 then (if (((x6_1 ++ (⟨#[59]⟩ : ByteArray)) ++ ((rd_T70 l1 x8_1).f0)) ++ (⟨#[61]⟩ : ByteArray)).size + t133.size ≤ 9223372036854775807 then (if t129 = true then (abutmentref08_Print.l0 k1 l1 ((((x6_1 ++ (⟨#[59]⟩ : ByteArray)) ++ ((rd_T70 l1 x8_1).f0)) ++ (⟨#[61]⟩ : ByteArray)) ++ t133) t134 (wrap64 (x8_1 + 1))) else (abutmentref08_Print.l0 k1 l1 ((((x6_1 ++ (⟨#[59]⟩ : ByteArray)) ++ ((rd_T70 l1 x8_1).f0)) ++ (⟨#[61]⟩ : ByteArray)) ++ t133) false (wrap64 (x8_1 + 1)))) else (none)) else (none)) = some (r1, r2) := H
                  have A11 := Aside0.mk A110
                  clear A110
                  by_cases c12 : ((x6_1 ++ (⟨#[59]⟩ : ByteArray)) ++ ((rd_T70 l1 x8_1).f0)).size + 1 ≤ 9223372036854775807
                  · rw [if_pos c12] at H
                    have c12b0 := eq_true c12
                    have c12b1 : decide (((x6_1 ++ (⟨#[59]⟩ : ByteArray)) ++ ((rd_T70 l1 x8_1).f0)).size + 1 ≤ 9223372036854775807) = true := decide_eq_true c12
                    try have c12b2 : (9223372036854775807 < ((x6_1 ++ (⟨#[59]⟩ : ByteArray)) ++ ((rd_T70 l1 x8_1).f0)).size + 1) = False := eq_false (Nat.not_lt.2 c12)
                    try (have c12b3 := c12b2; simp only [ByteArray.size_append, (show ∀ a : UInt8, (⟨#[a]⟩ : ByteArray).size = 1 from fun _ => rfl)] at c12b3)
                    by_cases c13 : (((x6_1 ++ (⟨#[59]⟩ : ByteArray)) ++ ((rd_T70 l1 x8_1).f0)) ++ (⟨#[61]⟩ : ByteArray)).size + t133.size ≤ 9223372036854775807
                    · rw [if_pos c13] at H
                      have c13b0 := eq_true c13
                      have c13b1 : decide ((((x6_1 ++ (⟨#[59]⟩ : ByteArray)) ++ ((rd_T70 l1 x8_1).f0)) ++ (⟨#[61]⟩ : ByteArray)).size + t133.size ≤ 9223372036854775807) = true := decide_eq_true c13
                      try have c13b2 : (9223372036854775807 < (((x6_1 ++ (⟨#[59]⟩ : ByteArray)) ++ ((rd_T70 l1 x8_1).f0)) ++ (⟨#[61]⟩ : ByteArray)).size + t133.size) = False := eq_false (Nat.not_lt.2 c13)
                      try (have c13b3 := c13b2; simp only [ByteArray.size_append, (show ∀ a : UInt8, (⟨#[a]⟩ : ByteArray).size = 1 from fun _ => rfl)] at c13b3)
                      by_cases c14 : t129 = true
                      · subst c14
                        have H1 : (abutmentref08_Print.l0 k1 l1 ((((x6_1 ++ (⟨#[59]⟩ : ByteArray)) ++ ((rd_T70 l1 x8_1).f0)) ++ (⟨#[61]⟩ : ByteArray)) ++ t133) t134 (wrap64 (x8_1 + 1))) = some (r1, r2) := by rw [if_pos rfl] at H; exact H
                        clear H
                        have H := H1
                        clear H1
                        have H' := Aside0.mk H
                        clear H
                        have p128 : 0 ≤ (x8_1 : Int) := of_decide_eq_true (by first | (with_reducible assumption) | assumption)
                        have q128 : x8_1 < (l1.length : Int) := of_decide_eq_true (by first | (with_reducible assumption) | assumption)
                        obtain ⟨ad128, e128, hx128_0, hx128_1⟩ := at_T70 HR1.out x8_1 p128 q128
                        cases e128
                        replace p128 := eq_true p128
                        replace q128 := eq_true q128
                        go_wp2_with (first | (go_at_call 35; (with_reducible refine (abutmentref01_Token.calls k1 ((rd_T70 l1 x8_1).f0) true _ A7.out).mono ?_); rintro e w' ⟨rfl, ⟨nd, rfl⟩⟩; have p130 : 0 ≤ (x8_1 : Int) := of_decide_eq_true (by first | (with_reducible assumption) | assumption); have q130 : x8_1 < (l1.length : Int) := of_decide_eq_true (by first | (with_reducible assumption) | assumption); obtain ⟨ad130, e130, hx130_0, hx130_1⟩ := at_T70 HR1.out x8_1 p130 q130; obtain rfl : ad128 = ad130 := (by injection e130); replace p130 := eq_true p130; replace q130 := eq_true q130; have p131 : 0 ≤ (x8_1 : Int) := of_decide_eq_true (by first | (with_reducible assumption) | assumption); have q131 : x8_1 < (l1.length : Int) := of_decide_eq_true (by first | (with_reducible assumption) | assumption); obtain ⟨ad131, e131, hx131_0, hx131_1⟩ := at_T70 HR1.out x8_1 p131 q131; obtain rfl : ad128 = ad131 := (by injection e131); replace p131 := eq_true p131; replace q131 := eq_true q131; have p132 : 0 ≤ (x8_1 : Int) := of_decide_eq_true (by first | (with_reducible assumption) | assumption); have q132 : x8_1 < (l1.length : Int) := of_decide_eq_true (by first | (with_reducible assumption) | assumption); obtain ⟨ad132, e132, hx132_0, hx132_1⟩ := at_T70 HR1.out x8_1 p132 q132; obtain rfl : ad128 = ad132 := (by injection e132); replace p132 := eq_true p132; replace q132 := eq_true q132) | ((with_reducible refine gate_callee (f := 62) rfl ?_); refine goesL_ (some 49) rfl rfl Try.func62 (by kernel_rfl) rfl #[.string ((rd_T70 l1 x8_1).f1)] rfl (by (try simp only [List.map_toArray, List.map_cons, List.map_nil]); first | done | rfl | (simp only [List.length_drop, List.length_take]; rfl)) ?_; (with_reducible refine (abutmentref04_Quote.calls k1 ((rd_T70 l1 x8_1).f1) t133 t134 _ A11.out).mono ?_); rintro e w' ⟨rfl, ⟨nd, rfl⟩⟩; refine ⟨_, rfl, ?_⟩))
                        go_roundg k1
                        case measure => have := HK1.out; omega
                        case rel => exact ⟨((((x6_1 ++ (⟨#[59]⟩ : ByteArray)) ++ ((rd_T70 l1 x8_1).f0)) ++ (⟨#[61]⟩ : ByteArray)) ++ t133), (t134), (wrap64 (x8_1 + 1)), (by first | rfl | (simp; done) | (simp [*]; done)), (by first | rfl | (simp; done) | (simp [*]; done)), (by first | rfl | (simp; done) | (simp [*]; done)), H', ⟨by have := HK1.out; omega⟩, by repeat (first | exact Drawn0.refl _ | apply Drawn0.step)⟩
                      · replace c14 := Bool.eq_false_iff.mpr c14
                        subst c14
                        have H1 : (abutmentref08_Print.l0 k1 l1 ((((x6_1 ++ (⟨#[59]⟩ : ByteArray)) ++ ((rd_T70 l1 x8_1).f0)) ++ (⟨#[61]⟩ : ByteArray)) ++ t133) false (wrap64 (x8_1 + 1))) = some (r1, r2) := by rw [if_neg (show ¬ (false = true) by decide)] at H; exact H
                        clear H
                        have H := H1
                        clear H1
                        have H' := Aside0.mk H
                        clear H
                        have p128 : 0 ≤ (x8_1 : Int) := of_decide_eq_true (by first | (with_reducible assumption) | assumption)
                        have q128 : x8_1 < (l1.length : Int) := of_decide_eq_true (by first | (with_reducible assumption) | assumption)
                        obtain ⟨ad128, e128, hx128_0, hx128_1⟩ := at_T70 HR1.out x8_1 p128 q128
                        cases e128
                        replace p128 := eq_true p128
                        replace q128 := eq_true q128
                        go_wp2_with (first | (go_at_call 35; (with_reducible refine (abutmentref01_Token.calls k1 ((rd_T70 l1 x8_1).f0) false _ A7.out).mono ?_); rintro e w' ⟨rfl, ⟨nd, rfl⟩⟩; have p130 : 0 ≤ (x8_1 : Int) := of_decide_eq_true (by first | (with_reducible assumption) | assumption); have q130 : x8_1 < (l1.length : Int) := of_decide_eq_true (by first | (with_reducible assumption) | assumption); obtain ⟨ad130, e130, hx130_0, hx130_1⟩ := at_T70 HR1.out x8_1 p130 q130; obtain rfl : ad128 = ad130 := (by injection e130); replace p130 := eq_true p130; replace q130 := eq_true q130; have p131 : 0 ≤ (x8_1 : Int) := of_decide_eq_true (by first | (with_reducible assumption) | assumption); have q131 : x8_1 < (l1.length : Int) := of_decide_eq_true (by first | (with_reducible assumption) | assumption); obtain ⟨ad131, e131, hx131_0, hx131_1⟩ := at_T70 HR1.out x8_1 p131 q131; obtain rfl : ad128 = ad131 := (by injection e131); replace p131 := eq_true p131; replace q131 := eq_true q131; have p132 : 0 ≤ (x8_1 : Int) := of_decide_eq_true (by first | (with_reducible assumption) | assumption); have q132 : x8_1 < (l1.length : Int) := of_decide_eq_true (by first | (with_reducible assumption) | assumption); obtain ⟨ad132, e132, hx132_0, hx132_1⟩ := at_T70 HR1.out x8_1 p132 q132; obtain rfl : ad128 = ad132 := (by injection e132); replace p132 := eq_true p132; replace q132 := eq_true q132) | ((with_reducible refine gate_callee (f := 62) rfl ?_); refine goesL_ (some 49) rfl rfl Try.func62 (by kernel_rfl) rfl #[.string ((rd_T70 l1 x8_1).f1)] rfl (by (try simp only [List.map_toArray, List.map_cons, List.map_nil]); first | done | rfl | (simp only [List.length_drop, List.length_take]; rfl)) ?_; (with_reducible refine (abutmentref04_Quote.calls k1 ((rd_T70 l1 x8_1).f1) t133 t134 _ A11.out).mono ?_); rintro e w' ⟨rfl, ⟨nd, rfl⟩⟩; refine ⟨_, rfl, ?_⟩))
                        go_roundg k1
                        case measure => have := HK1.out; omega
                        case rel => exact ⟨((((x6_1 ++ (⟨#[59]⟩ : ByteArray)) ++ ((rd_T70 l1 x8_1).f0)) ++ (⟨#[61]⟩ : ByteArray)) ++ t133), (false), (wrap64 (x8_1 + 1)), (by first | rfl | (simp; done) | (simp [*]; done)), (by first | rfl | (simp; done) | (simp [*]; done)), (by first | rfl | (simp; done) | (simp [*]; done)), H', ⟨by have := HK1.out; omega⟩, by repeat (first | exact Drawn0.refl _ | apply Drawn0.step)⟩
                    · rw [if_neg c13] at H
                      exact absurd H (by simp)
                  · rw [if_neg c12] at H
                    exact absurd H (by simp)
              · rw [if_neg c9] at H
                exact absurd H (by simp)
            · rw [if_neg c8] at H
              exact absurd H (by simp)
          · rw [if_neg c6] at H
            exact absurd H (by simp)
        · replace c5 := Bool.eq_false_iff.mpr c5
          subst c5
          have H1 : (if x6_1.size + 1 ≤ 9223372036854775807 then (if 0 ≤ x8_1 then (if (x6_1 ++ (⟨#[59]⟩ : ByteArray)).size + ((rd_T70 l1 x8_1).f0).size ≤ 9223372036854775807 then (if ((rd_T70 l1 x8_1).f1).toList = ([] : List UInt8) then (abutmentref08_Print.l0 k1 l1 ((x6_1 ++ (⟨#[59]⟩ : ByteArray)) ++ ((rd_T70 l1 x8_1).f0)) false (wrap64 (x8_1 + 1))) else ((abutmentref04_Quote.f k1 ((rd_T70 l1 x8_1).f1)).bind fun bt138 => (if ((x6_1 ++ (⟨#[59]⟩ : ByteArray)) ++ ((rd_T70 l1 x8_1).f0)).size + 1 ≤ 9223372036854775807 then (if (((x6_1 ++ (⟨#[59]⟩ : ByteArray)) ++ ((rd_T70 l1 x8_1).f0)) ++ (⟨#[61]⟩ : ByteArray)).size + bt138.1.size ≤ 9223372036854775807 then (abutmentref08_Print.l0 k1 l1 ((((x6_1 ++ (⟨#[59]⟩ : ByteArray)) ++ ((rd_T70 l1 x8_1).f0)) ++ (⟨#[61]⟩ : ByteArray)) ++ bt138.1) false (wrap64 (x8_1 + 1))) else (none)) else (none)))) else (none)) else (none)) else (none)) = some (r1, r2) := by rw [if_neg (show ¬ (false = true) by decide)] at H; exact H
          clear H
          have H := H1
          clear H1
          by_cases c15 : x6_1.size + 1 ≤ 9223372036854775807
          · rw [if_pos c15] at H
            have c15b0 := eq_true c15
            have c15b1 : decide (x6_1.size + 1 ≤ 9223372036854775807) = true := decide_eq_true c15
            try have c15b2 : (9223372036854775807 < x6_1.size + 1) = False := eq_false (Nat.not_lt.2 c15)
            by_cases c16 : 0 ≤ x8_1
            · rw [if_pos c16] at H
              have c16b0 : decide (0 ≤ x8_1) = true := decide_eq_true c16
              clear c16
              by_cases c17 : (x6_1 ++ (⟨#[59]⟩ : ByteArray)).size + ((rd_T70 l1 x8_1).f0).size ≤ 9223372036854775807
              · rw [if_pos c17] at H
                have c17b0 := eq_true c17
                have c17b1 : decide ((x6_1 ++ (⟨#[59]⟩ : ByteArray)).size + ((rd_T70 l1 x8_1).f0).size ≤ 9223372036854775807) = true := decide_eq_true c17
                try have c17b2 : (9223372036854775807 < (x6_1 ++ (⟨#[59]⟩ : ByteArray)).size + ((rd_T70 l1 x8_1).f0).size) = False := eq_false (Nat.not_lt.2 c17)
                try (have c17b3 := c17b2; simp only [ByteArray.size_append, (show ∀ a : UInt8, (⟨#[a]⟩ : ByteArray).size = 1 from fun _ => rfl)] at c17b3)
                by_cases c18 : ((rd_T70 l1 x8_1).f1).toList = ([] : List UInt8)
                · rw [if_pos c18] at H
                  have c18b0 : (((rd_T70 l1 x8_1).f1).toList == ([] : List UInt8)) = true := beq_iff_eq.mpr c18
                  have c18b1 : (((rd_T70 l1 x8_1).f1).toList != ([] : List UInt8)) = false := bne_eq_false_iff_eq.mpr c18
                  clear c18
                  have H' := Aside0.mk H
                  clear H
                  have p135 : 0 ≤ (x8_1 : Int) := of_decide_eq_true (by first | (with_reducible assumption) | assumption)
                  have q135 : x8_1 < (l1.length : Int) := of_decide_eq_true (by first | (with_reducible assumption) | assumption)
                  obtain ⟨ad135, e135, hx135_0, hx135_1⟩ := at_T70 HR1.out x8_1 p135 q135
                  cases e135
                  replace p135 := eq_true p135
                  replace q135 := eq_true q135
                  have p136 : 0 ≤ (x8_1 : Int) := of_decide_eq_true (by first | (with_reducible assumption) | assumption)
                  have q136 : x8_1 < (l1.length : Int) := of_decide_eq_true (by first | (with_reducible assumption) | assumption)
                  obtain ⟨ad136, e136, hx136_0, hx136_1⟩ := at_T70 HR1.out x8_1 p136 q136
                  obtain rfl : ad135 = ad136 := (by injection e136)
                  replace p136 := eq_true p136
                  replace q136 := eq_true q136
                  go_wp2
                  go_roundg k1
                  case measure => have := HK1.out; omega
                  case rel => exact ⟨((x6_1 ++ (⟨#[59]⟩ : ByteArray)) ++ ((rd_T70 l1 x8_1).f0)), (false), (wrap64 (x8_1 + 1)), (by first | rfl | (simp; done) | (simp [*]; done)), (by first | rfl | (simp; done) | (simp [*]; done)), (by first | rfl | (simp; done) | (simp [*]; done)), H', ⟨by have := HK1.out; omega⟩, by repeat (first | exact Drawn0.refl _ | apply Drawn0.step)⟩
                · rw [if_neg c18] at H
                  have c18b0 : (((rd_T70 l1 x8_1).f1).toList == ([] : List UInt8)) = false := beq_eq_false_iff_ne.mpr c18
                  have c18b1 : (((rd_T70 l1 x8_1).f1).toList != ([] : List UInt8)) = true := bne_iff_ne.mpr c18
                  replace H := Option.bind_eq_some_iff.mp H
                  obtain ⟨⟨t138, t139⟩, A190, H⟩ := H
                  replace H : (if ((x6_1 ++ (⟨#[59]⟩ : ByteArray)) ++ ((rd_T70 l1 x8_1).f0)).size + 1 ≤ 9223372036854775807 then (if (((x6_1 ++ (⟨#[59]⟩ : ByteArray)) ++ ((rd_T70 l1 x8_1).f0)) ++ (⟨#[61]⟩ : ByteArray)).size + t138.size ≤ 9223372036854775807 then (abutmentref08_Print.l0 k1 l1 ((((x6_1 ++ (⟨#[59]⟩ : ByteArray)) ++ ((rd_T70 l1 x8_1).f0)) ++ (⟨#[61]⟩ : ByteArray)) ++ t138) false (wrap64 (x8_1 + 1))) else (none)) else (none)) = some (r1, r2) := H
                  have A19 := Aside0.mk A190
                  clear A190
                  by_cases c20 : ((x6_1 ++ (⟨#[59]⟩ : ByteArray)) ++ ((rd_T70 l1 x8_1).f0)).size + 1 ≤ 9223372036854775807
                  · rw [if_pos c20] at H
                    have c20b0 := eq_true c20
                    have c20b1 : decide (((x6_1 ++ (⟨#[59]⟩ : ByteArray)) ++ ((rd_T70 l1 x8_1).f0)).size + 1 ≤ 9223372036854775807) = true := decide_eq_true c20
                    try have c20b2 : (9223372036854775807 < ((x6_1 ++ (⟨#[59]⟩ : ByteArray)) ++ ((rd_T70 l1 x8_1).f0)).size + 1) = False := eq_false (Nat.not_lt.2 c20)
                    try (have c20b3 := c20b2; simp only [ByteArray.size_append, (show ∀ a : UInt8, (⟨#[a]⟩ : ByteArray).size = 1 from fun _ => rfl)] at c20b3)
                    by_cases c21 : (((x6_1 ++ (⟨#[59]⟩ : ByteArray)) ++ ((rd_T70 l1 x8_1).f0)) ++ (⟨#[61]⟩ : ByteArray)).size + t138.size ≤ 9223372036854775807
                    · rw [if_pos c21] at H
                      have c21b0 := eq_true c21
                      have c21b1 : decide ((((x6_1 ++ (⟨#[59]⟩ : ByteArray)) ++ ((rd_T70 l1 x8_1).f0)) ++ (⟨#[61]⟩ : ByteArray)).size + t138.size ≤ 9223372036854775807) = true := decide_eq_true c21
                      try have c21b2 : (9223372036854775807 < (((x6_1 ++ (⟨#[59]⟩ : ByteArray)) ++ ((rd_T70 l1 x8_1).f0)) ++ (⟨#[61]⟩ : ByteArray)).size + t138.size) = False := eq_false (Nat.not_lt.2 c21)
                      try (have c21b3 := c21b2; simp only [ByteArray.size_append, (show ∀ a : UInt8, (⟨#[a]⟩ : ByteArray).size = 1 from fun _ => rfl)] at c21b3)
                      have H' := Aside0.mk H
                      clear H
                      have p135 : 0 ≤ (x8_1 : Int) := of_decide_eq_true (by first | (with_reducible assumption) | assumption)
                      have q135 : x8_1 < (l1.length : Int) := of_decide_eq_true (by first | (with_reducible assumption) | assumption)
                      obtain ⟨ad135, e135, hx135_0, hx135_1⟩ := at_T70 HR1.out x8_1 p135 q135
                      cases e135
                      replace p135 := eq_true p135
                      replace q135 := eq_true q135
                      have p136 : 0 ≤ (x8_1 : Int) := of_decide_eq_true (by first | (with_reducible assumption) | assumption)
                      have q136 : x8_1 < (l1.length : Int) := of_decide_eq_true (by first | (with_reducible assumption) | assumption)
                      obtain ⟨ad136, e136, hx136_0, hx136_1⟩ := at_T70 HR1.out x8_1 p136 q136
                      obtain rfl : ad135 = ad136 := (by injection e136)
                      replace p136 := eq_true p136
                      replace q136 := eq_true q136
                      have p137 : 0 ≤ (x8_1 : Int) := of_decide_eq_true (by first | (with_reducible assumption) | assumption)
                      have q137 : x8_1 < (l1.length : Int) := of_decide_eq_true (by first | (with_reducible assumption) | assumption)
                      obtain ⟨ad137, e137, hx137_0, hx137_1⟩ := at_T70 HR1.out x8_1 p137 q137
                      obtain rfl : ad135 = ad137 := (by injection e137)
                      replace p137 := eq_true p137
                      replace q137 := eq_true q137
                      go_wp2_with (first | ((with_reducible refine gate_callee (f := 62) rfl ?_); refine goesL_ (some 49) rfl rfl Try.func62 (by kernel_rfl) rfl #[.string ((rd_T70 l1 x8_1).f1)] rfl (by (try simp only [List.map_toArray, List.map_cons, List.map_nil]); first | done | rfl | (simp only [List.length_drop, List.length_take]; rfl)) ?_; (with_reducible refine (abutmentref04_Quote.calls k1 ((rd_T70 l1 x8_1).f1) t138 t139 _ A19.out).mono ?_); rintro e w' ⟨rfl, ⟨nd, rfl⟩⟩; refine ⟨_, rfl, ?_⟩))
                      go_roundg k1
                      case measure => have := HK1.out; omega
                      case rel => exact ⟨((((x6_1 ++ (⟨#[59]⟩ : ByteArray)) ++ ((rd_T70 l1 x8_1).f0)) ++ (⟨#[61]⟩ : ByteArray)) ++ t138), (false), (wrap64 (x8_1 + 1)), (by first | rfl | (simp; done) | (simp [*]; done)), (by first | rfl | (simp; done) | (simp [*]; done)), (by first | rfl | (simp; done) | (simp [*]; done)), H', ⟨by have := HK1.out; omega⟩, by repeat (first | exact Drawn0.refl _ | apply Drawn0.step)⟩
                    · rw [if_neg c21] at H
                      exact absurd H (by simp)
                  · rw [if_neg c20] at H
                    exact absurd H (by simp)
              · rw [if_neg c17] at H
                exact absurd H (by simp)
            · rw [if_neg c16] at H
              exact absurd H (by simp)
          · rw [if_neg c15] at H
            exact absurd H (by simp)
      · rw [if_neg c4] at H
        have c4b0 : decide (x8_1 < (l1.length : Int)) = false := decide_eq_false c4
        clear c4
        by_cases c22 : x7_1 = true
        · subst c22
          have H1 : (some (x6_1, true)) = some (r1, r2) := by rw [if_pos rfl] at H; exact H
          clear H
          have H := H1
          clear H1
          simp only [Option.some.injEq, Prod.mk.injEq] at H
          obtain ⟨rfl, rfl⟩ := H
          go_wp2
          go_ret2
          exact ⟨by first | rfl | (simp; done) | (simp [*]; done), by repeat (first | exact Drawn0.refl _ | apply Drawn0.step)⟩
        · replace c22 := Bool.eq_false_iff.mpr c22
          subst c22
          have H1 : (some ((⟨#[]⟩ : ByteArray), false)) = some (r1, r2) := by rw [if_neg (show ¬ (false = true) by decide)] at H; exact H
          clear H
          have H := H1
          clear H1
          simp only [Option.some.injEq, Prod.mk.injEq] at H
          obtain ⟨rfl, rfl⟩ := H
          go_wp2
          go_ret2
          exact ⟨by first | rfl | (simp; done) | (simp [*]; done), by repeat (first | exact Drawn0.refl _ | apply Drawn0.step)⟩

/-! ### abutmentlaw08_ParamsPrint: function 14 -/
def abutmentlaw08_ParamsPrint.f (k : Nat) (a0 : ByteArray) (l1 : List (S70)) : Option (Bool) := if 0 ≤ (mn (a0.size : Int) 60) then (if (mn (a0.size : Int) 60) ≤ (a0.size : Int) then ((abutmentlaw08_few.f k l1).bind fun t140 => (if t140 = true then ((params_Print.f k (a0.extract 0 ((mn (a0.size : Int) 60) : Int).toNat) l1).bind fun bt141 => ((abutmentref08_Print.f k (a0.extract 0 ((mn (a0.size : Int) 60) : Int).toNat) l1).bind fun bt143 => (if bt141.1.toList = bt143.1.toList then (if (bt141.2 == bt143.2) = true then ((abutmentlaw08_lives.f k).bind fun t145 => (some t145)) else (some false)) else (some false)))) else ((abutmentlaw08_lives.f k).bind fun t146 => (some t146)))) else (none)) else (none)
theorem abutmentlaw08_ParamsPrint.mono : ∀ a0 a1 k, LeO (abutmentlaw08_ParamsPrint.f k a0 a1) (abutmentlaw08_ParamsPrint.f (k + 1) a0 a1) := by
  intro a0 a1 k
  unfold abutmentlaw08_ParamsPrint.f
  repeat' first
      | (with_reducible exact abutmentlaw08_few.mono _ _)
      | (with_reducible exact abutmentlaw08_lives.mono _)
      | (with_reducible exact abutmentref08_Print.mono _ _ _)
      | (with_reducible exact params_Print.mono _ _ _)
      | (with_reducible exact LeO.refl _)
      | (with_reducible exact LeO.none _)
      | (with_reducible refine LeO.ite ?_ ?_)
      | (with_reducible refine LeO.bind ?_ (fun _ => ?_))
      | exact abutmentlaw08_few.mono _ _
      | exact abutmentlaw08_lives.mono _
      | exact abutmentref08_Print.mono _ _ _
      | exact params_Print.mono _ _ _
      | exact LeO.none _
      | refine LeO.ite ?_ ?_
      | refine LeO.bind ?_ (fun _ => ?_)
set_option maxHeartbeats 8000000 in
set_option maxRecDepth 100000 in
theorem abutmentlaw08_ParamsPrint.calls (k : Nat) (a0 : ByteArray) (A1 : Option Addr) (c1 : Nat) (l1 : List (S70)) (r : Bool) (w : World) (hr1 : Kd.C k70 w A1 l1.length l1) (hc1 : l1.length ≤ c1) (h : abutmentlaw08_ParamsPrint.f k a0 l1 = some r) :
    Calls Try.prog 14 #[.string a0, .slice A1 l1.length c1] w fun e w' => e = .returned (.bool r) ∧ Below w.heap.size w w' := by
  have HR1 := Aside0.mk hr1
  have HC1 := Aside0.mk hc1
  clear hr1 hc1
  have HB := Aside0.mk (Below.refl w.heap.size w)
  have H : (if 0 ≤ (mn (a0.size : Int) 60) then (if (mn (a0.size : Int) 60) ≤ (a0.size : Int) then ((abutmentlaw08_few.f k l1).bind fun t140 => (if t140 = true then ((params_Print.f k (a0.extract 0 ((mn (a0.size : Int) 60) : Int).toNat) l1).bind fun bt141 => ((abutmentref08_Print.f k (a0.extract 0 ((mn (a0.size : Int) 60) : Int).toNat) l1).bind fun bt143 => (if bt141.1.toList = bt143.1.toList then (if (bt141.2 == bt143.2) = true then ((abutmentlaw08_lives.f k).bind fun t145 => (some t145)) else (some false)) else (some false)))) else ((abutmentlaw08_lives.f k).bind fun t146 => (some t146)))) else (none)) else (none)) = some r := h
  clear h
  obtain ⟨ji3, hji3⟩ : ∃ j_ : Int, (mn (a0.size : Int) 60) = j_ := ⟨_, rfl⟩
  replace H : (if 0 ≤ (ji3) then (if (ji3) ≤ (a0.size : Int) then ((abutmentlaw08_few.f k l1).bind fun t140 => (if t140 = true then ((params_Print.f k (a0.extract 0 ((ji3) : Int).toNat) l1).bind fun bt141 => ((abutmentref08_Print.f k (a0.extract 0 ((ji3) : Int).toNat) l1).bind fun bt143 => (if bt141.1.toList = bt143.1.toList then (if (bt141.2 == bt143.2) = true then ((abutmentlaw08_lives.f k).bind fun t145 => (some t145)) else (some false)) else (some false)))) else ((abutmentlaw08_lives.f k).bind fun t146 => (some t146)))) else (none)) else (none)) = some r := by first | (rw [hji3] at H; exact H) | (simp only [hji3] at H ⊢; exact H)
  (try (have hji3h : ji3 ≤ 60 := by (rw [← hji3]; unfold mn; (repeat' split) <;> omega)))
  (try (have hji3g : ji3 ≤ 64 := by omega))
  (try (have hji3l : 0 ≤ ji3 := by (rw [← hji3]; unfold mn; (repeat' split) <;> omega)))
  (try (have hji3m : 0 ≤ ji3 := by omega))
  have hji3_ : (if 60 < (a0.size : Int) then 60 else (a0.size : Int)) = ji3 := hji3
  by_cases c4 : 0 ≤ (ji3)
  · rw [if_pos c4] at H
    have c4b0 := eq_true c4
    have c4b1 : decide (0 ≤ (ji3)) = true := decide_eq_true c4
    clear c4
    by_cases c5 : (ji3) ≤ (a0.size : Int)
    · rw [if_pos c5] at H
      have c5b0 := eq_true c5
      have c5b1 : decide ((ji3) ≤ (a0.size : Int)) = true := decide_eq_true c5
      clear c5
      replace H := Option.bind_eq_some_iff.mp H
      obtain ⟨t140, A60, H⟩ := H
      replace H : (if t140 = true then ((params_Print.f k (a0.extract 0 ((ji3) : Int).toNat) l1).bind fun bt141 => ((abutmentref08_Print.f k (a0.extract 0 ((ji3) : Int).toNat) l1).bind fun bt143 => (if bt141.1.toList = bt143.1.toList then (if (bt141.2 == bt143.2) = true then ((abutmentlaw08_lives.f k).bind fun t145 => (some t145)) else (some false)) else (some false)))) else ((abutmentlaw08_lives.f k).bind fun t146 => (some t146))) = some r := H
      have A6 := Aside0.mk A60
      clear A60
      by_cases c7 : t140 = true
      · subst c7
        have H1 : ((params_Print.f k (a0.extract 0 ((ji3) : Int).toNat) l1).bind fun bt141 => ((abutmentref08_Print.f k (a0.extract 0 ((ji3) : Int).toNat) l1).bind fun bt143 => (if bt141.1.toList = bt143.1.toList then (if (bt141.2 == bt143.2) = true then ((abutmentlaw08_lives.f k).bind fun t145 => (some t145)) else (some false)) else (some false)))) = some r := by rw [if_pos rfl] at H; exact H
        clear H
        have H := H1
        clear H1
        replace H := Option.bind_eq_some_iff.mp H
        obtain ⟨⟨t141, t142⟩, A80, H⟩ := H
        replace H : ((abutmentref08_Print.f k (a0.extract 0 ((ji3) : Int).toNat) l1).bind fun bt143 => (if t141.toList = bt143.1.toList then (if (t142 == bt143.2) = true then ((abutmentlaw08_lives.f k).bind fun t145 => (some t145)) else (some false)) else (some false))) = some r := H
        have A8 := Aside0.mk A80
        clear A80
        replace H := Option.bind_eq_some_iff.mp H
        obtain ⟨⟨t143, t144⟩, A90, H⟩ := H
        replace H : (if t141.toList = t143.toList then (if (t142 == t144) = true then ((abutmentlaw08_lives.f k).bind fun t145 => (some t145)) else (some false)) else (some false)) = some r := H
        have A9 := Aside0.mk A90
        clear A90
        by_cases c10 : t141.toList = t143.toList
        · rw [if_pos c10] at H
          have c10b0 : (t141.toList == t143.toList) = true := beq_iff_eq.mpr c10
          have c10b1 : (t141.toList != t143.toList) = false := bne_eq_false_iff_eq.mpr c10
          clear c10
          by_cases c11 : (t142 == t144) = true
          · rw [if_pos c11] at H
            have c11b0 : (t142 == t144) = true := c11
            (try (have c11b1 : decide (t142 = t144) = true := by simpa using c11))
            (try (have c11b2 : (t142 == t144) = true := by simpa using c11))
            clear c11
            replace H := Option.bind_eq_some_iff.mp H
            obtain ⟨t145, A120, H⟩ := H
            replace H : (some t145) = some r := H
            have A12 := Aside0.mk A120
            clear A120
            obtain rfl := Option.some.inj H
            go_enter Try.func14, Try.ntmps14
            go_wp2_with (first | ((with_reducible refine gate_callee (f := 67) rfl ?_); refine goesL_ (some 15) rfl rfl Try.func67 (by kernel_rfl) rfl #[.slice A1 l1.length c1] rfl (by (try simp only [List.map_toArray, List.map_cons, List.map_nil]); first | done | rfl | (simp only [List.length_drop, List.length_take]; rfl)) ?_; (with_reducible refine (abutmentlaw08_few.calls k _ _ l1 true _ ?side1 ?side2 A6.out).mono ?_); (case side1 => repeat (first | exact HR1.out | (with_reducible refine Kd.C_alloc ?_ _) | (with_reducible refine Kd.C_drewN ?_ _) | (with_reducible refine Kd.C_drew ?_))); (case side2 => exact HC1.out); rintro e w13 ⟨rfl, hb⟩; refine ⟨_, rfl, ?_⟩; have n0_ := Aside0.mk (below_step (by repeat (first | (with_reducible first | exact HB.out | apply below_alloc | apply pw_below_drewN | apply below_drew1) | exact HB.out)) hb); clear HB; have HB := n0_; clear n0_; (try clear hb); (try clear hb2); (try clear hk); (try clear hi)) | ((with_reducible refine gate_callee (f := 68) rfl ?_); refine goesL_ (some 21) rfl rfl Try.func68 (by kernel_rfl) rfl #[.string (a0.extract 0 ((ji3) : Int).toNat), .slice A1 l1.length c1] rfl (by (try simp only [List.map_toArray, List.map_cons, List.map_nil]); first | done | (simp only [hji3]; rfl) | rfl | (simp only [List.length_drop, List.length_take]; rfl)) ?_; (with_reducible refine (params_Print.calls k (a0.extract 0 ((ji3) : Int).toNat) _ _ l1 t141 t142 _ ?side1 ?side2 A8.out).mono ?_); (case side1 => repeat (first | exact (Kd.C_below HR1.out HB.out) | (with_reducible refine Kd.C_alloc ?_ _) | (with_reducible refine Kd.C_drewN ?_ _) | (with_reducible refine Kd.C_drew ?_))); (case side2 => exact HC1.out); rintro e w14 ⟨rfl, hb⟩; refine ⟨_, rfl, ?_⟩; have n0_ := Aside0.mk (below_step (by repeat (first | (with_reducible first | exact HB.out | apply below_alloc | apply pw_below_drewN | apply below_drew1) | exact HB.out)) hb); clear HB; have HB := n0_; clear n0_; (try clear hb); (try clear hb2); (try clear hk); (try clear hi)) | ((with_reducible refine gate_callee (f := 69) rfl ?_); refine goesL_ (some 27) rfl rfl Try.func69 (by kernel_rfl) rfl #[.string (a0.extract 0 ((ji3) : Int).toNat), .slice A1 l1.length c1] rfl (by (try simp only [List.map_toArray, List.map_cons, List.map_nil]); first | done | (simp only [hji3]; rfl) | rfl | (simp only [List.length_drop, List.length_take]; rfl)) ?_; (with_reducible refine (abutmentref08_Print.calls k (a0.extract 0 ((ji3) : Int).toNat) _ _ l1 t143 t144 _ ?side1 ?side2 A9.out).mono ?_); (case side1 => repeat (first | exact (Kd.C_below HR1.out HB.out) | (with_reducible refine Kd.C_alloc ?_ _) | (with_reducible refine Kd.C_drewN ?_ _) | (with_reducible refine Kd.C_drew ?_))); (case side2 => exact HC1.out); rintro e w' ⟨rfl, ⟨nd, rfl⟩⟩; refine ⟨_, rfl, ?_⟩) | (go_at_call 66; (with_reducible refine (abutmentlaw08_lives.calls k  t145 _ A12.out).mono ?_); rintro e w15 ⟨rfl, hb⟩; have n0_ := Aside0.mk (below_step (by repeat (first | (with_reducible first | exact HB.out | apply below_alloc | apply pw_below_drewN | apply below_drew1) | exact HB.out)) hb); clear HB; have HB := n0_; clear n0_; (try clear hb); (try clear hb2); (try clear hk); (try clear hi)))
            go_ret
            exact ⟨by first | rfl | (simp [errW_none, errW_some] <;> rfl) | (simp only [← hji3]; first | rfl | (simp [errW_none, errW_some] <;> rfl)) | (simp [*, errW_none, errW_some] <;> rfl), by repeat (first | (with_reducible first | exact HB.out | apply below_alloc | apply pw_below_drewN | apply below_drew1) | exact HB.out)⟩
          · rw [if_neg c11] at H
            have c11b0 : (t142 == t144) = false := by simpa using c11
            (try (have c11b1 : decide (t142 = t144) = false := by simpa using c11))
            (try (have c11b2 : (t142 == t144) = false := by simpa using c11))
            (try (have c11b3 : ¬ (t142 = t144) := by simpa using c11))
            clear c11
            obtain rfl := Option.some.inj H
            go_enter Try.func14, Try.ntmps14
            go_wp2_with (first | ((with_reducible refine gate_callee (f := 67) rfl ?_); refine goesL_ (some 15) rfl rfl Try.func67 (by kernel_rfl) rfl #[.slice A1 l1.length c1] rfl (by (try simp only [List.map_toArray, List.map_cons, List.map_nil]); first | done | rfl | (simp only [List.length_drop, List.length_take]; rfl)) ?_; (with_reducible refine (abutmentlaw08_few.calls k _ _ l1 true _ ?side1 ?side2 A6.out).mono ?_); (case side1 => repeat (first | exact HR1.out | (with_reducible refine Kd.C_alloc ?_ _) | (with_reducible refine Kd.C_drewN ?_ _) | (with_reducible refine Kd.C_drew ?_))); (case side2 => exact HC1.out); rintro e w16 ⟨rfl, hb⟩; refine ⟨_, rfl, ?_⟩; have n0_ := Aside0.mk (below_step (by repeat (first | (with_reducible first | exact HB.out | apply below_alloc | apply pw_below_drewN | apply below_drew1) | exact HB.out)) hb); clear HB; have HB := n0_; clear n0_; (try clear hb); (try clear hb2); (try clear hk); (try clear hi)) | ((with_reducible refine gate_callee (f := 68) rfl ?_); refine goesL_ (some 21) rfl rfl Try.func68 (by kernel_rfl) rfl #[.string (a0.extract 0 ((ji3) : Int).toNat), .slice A1 l1.length c1] rfl (by (try simp only [List.map_toArray, List.map_cons, List.map_nil]); first | done | (simp only [hji3]; rfl) | rfl | (simp only [List.length_drop, List.length_take]; rfl)) ?_; (with_reducible refine (params_Print.calls k (a0.extract 0 ((ji3) : Int).toNat) _ _ l1 t141 t142 _ ?side1 ?side2 A8.out).mono ?_); (case side1 => repeat (first | exact (Kd.C_below HR1.out HB.out) | (with_reducible refine Kd.C_alloc ?_ _) | (with_reducible refine Kd.C_drewN ?_ _) | (with_reducible refine Kd.C_drew ?_))); (case side2 => exact HC1.out); rintro e w17 ⟨rfl, hb⟩; refine ⟨_, rfl, ?_⟩; have n0_ := Aside0.mk (below_step (by repeat (first | (with_reducible first | exact HB.out | apply below_alloc | apply pw_below_drewN | apply below_drew1) | exact HB.out)) hb); clear HB; have HB := n0_; clear n0_; (try clear hb); (try clear hb2); (try clear hk); (try clear hi)) | ((with_reducible refine gate_callee (f := 69) rfl ?_); refine goesL_ (some 27) rfl rfl Try.func69 (by kernel_rfl) rfl #[.string (a0.extract 0 ((ji3) : Int).toNat), .slice A1 l1.length c1] rfl (by (try simp only [List.map_toArray, List.map_cons, List.map_nil]); first | done | (simp only [hji3]; rfl) | rfl | (simp only [List.length_drop, List.length_take]; rfl)) ?_; (with_reducible refine (abutmentref08_Print.calls k (a0.extract 0 ((ji3) : Int).toNat) _ _ l1 t143 t144 _ ?side1 ?side2 A9.out).mono ?_); (case side1 => repeat (first | exact (Kd.C_below HR1.out HB.out) | (with_reducible refine Kd.C_alloc ?_ _) | (with_reducible refine Kd.C_drewN ?_ _) | (with_reducible refine Kd.C_drew ?_))); (case side2 => exact HC1.out); rintro e w' ⟨rfl, ⟨nd, rfl⟩⟩; refine ⟨_, rfl, ?_⟩))
            go_ret
            exact ⟨by first | rfl | (simp [errW_none, errW_some] <;> rfl) | (simp only [← hji3]; first | rfl | (simp [errW_none, errW_some] <;> rfl)) | (simp [*, errW_none, errW_some] <;> rfl), by repeat (first | (with_reducible first | exact HB.out | apply below_alloc | apply pw_below_drewN | apply below_drew1) | exact HB.out)⟩
        · rw [if_neg c10] at H
          have c10b0 : (t141.toList == t143.toList) = false := beq_eq_false_iff_ne.mpr c10
          have c10b1 : (t141.toList != t143.toList) = true := bne_iff_ne.mpr c10
          obtain rfl := Option.some.inj H
          go_enter Try.func14, Try.ntmps14
          go_wp2_with (first | ((with_reducible refine gate_callee (f := 67) rfl ?_); refine goesL_ (some 15) rfl rfl Try.func67 (by kernel_rfl) rfl #[.slice A1 l1.length c1] rfl (by (try simp only [List.map_toArray, List.map_cons, List.map_nil]); first | done | rfl | (simp only [List.length_drop, List.length_take]; rfl)) ?_; (with_reducible refine (abutmentlaw08_few.calls k _ _ l1 true _ ?side1 ?side2 A6.out).mono ?_); (case side1 => repeat (first | exact HR1.out | (with_reducible refine Kd.C_alloc ?_ _) | (with_reducible refine Kd.C_drewN ?_ _) | (with_reducible refine Kd.C_drew ?_))); (case side2 => exact HC1.out); rintro e w18 ⟨rfl, hb⟩; refine ⟨_, rfl, ?_⟩; have n0_ := Aside0.mk (below_step (by repeat (first | (with_reducible first | exact HB.out | apply below_alloc | apply pw_below_drewN | apply below_drew1) | exact HB.out)) hb); clear HB; have HB := n0_; clear n0_; (try clear hb); (try clear hb2); (try clear hk); (try clear hi)) | ((with_reducible refine gate_callee (f := 68) rfl ?_); refine goesL_ (some 21) rfl rfl Try.func68 (by kernel_rfl) rfl #[.string (a0.extract 0 ((ji3) : Int).toNat), .slice A1 l1.length c1] rfl (by (try simp only [List.map_toArray, List.map_cons, List.map_nil]); first | done | (simp only [hji3]; rfl) | rfl | (simp only [List.length_drop, List.length_take]; rfl)) ?_; (with_reducible refine (params_Print.calls k (a0.extract 0 ((ji3) : Int).toNat) _ _ l1 t141 t142 _ ?side1 ?side2 A8.out).mono ?_); (case side1 => repeat (first | exact (Kd.C_below HR1.out HB.out) | (with_reducible refine Kd.C_alloc ?_ _) | (with_reducible refine Kd.C_drewN ?_ _) | (with_reducible refine Kd.C_drew ?_))); (case side2 => exact HC1.out); rintro e w19 ⟨rfl, hb⟩; refine ⟨_, rfl, ?_⟩; have n0_ := Aside0.mk (below_step (by repeat (first | (with_reducible first | exact HB.out | apply below_alloc | apply pw_below_drewN | apply below_drew1) | exact HB.out)) hb); clear HB; have HB := n0_; clear n0_; (try clear hb); (try clear hb2); (try clear hk); (try clear hi)) | ((with_reducible refine gate_callee (f := 69) rfl ?_); refine goesL_ (some 27) rfl rfl Try.func69 (by kernel_rfl) rfl #[.string (a0.extract 0 ((ji3) : Int).toNat), .slice A1 l1.length c1] rfl (by (try simp only [List.map_toArray, List.map_cons, List.map_nil]); first | done | (simp only [hji3]; rfl) | rfl | (simp only [List.length_drop, List.length_take]; rfl)) ?_; (with_reducible refine (abutmentref08_Print.calls k (a0.extract 0 ((ji3) : Int).toNat) _ _ l1 t143 t144 _ ?side1 ?side2 A9.out).mono ?_); (case side1 => repeat (first | exact (Kd.C_below HR1.out HB.out) | (with_reducible refine Kd.C_alloc ?_ _) | (with_reducible refine Kd.C_drewN ?_ _) | (with_reducible refine Kd.C_drew ?_))); (case side2 => exact HC1.out); rintro e w' ⟨rfl, ⟨nd, rfl⟩⟩; refine ⟨_, rfl, ?_⟩))
          go_ret
          exact ⟨by first | rfl | (simp [errW_none, errW_some] <;> rfl) | (simp only [← hji3]; first | rfl | (simp [errW_none, errW_some] <;> rfl)) | (simp [*, errW_none, errW_some] <;> rfl), by repeat (first | (with_reducible first | exact HB.out | apply below_alloc | apply pw_below_drewN | apply below_drew1) | exact HB.out)⟩
      · replace c7 := Bool.eq_false_iff.mpr c7
        subst c7
        have H1 : ((abutmentlaw08_lives.f k).bind fun t146 => (some t146)) = some r := by rw [if_neg (show ¬ (false = true) by decide)] at H; exact H
        clear H
        have H := H1
        clear H1
        replace H := Option.bind_eq_some_iff.mp H
        obtain ⟨t146, A200, H⟩ := H
        replace H : (some t146) = some r := H
        have A20 := Aside0.mk A200
        clear A200
        obtain rfl := Option.some.inj H
        go_enter Try.func14, Try.ntmps14
        go_wp2_with (first | ((with_reducible refine gate_callee (f := 67) rfl ?_); refine goesL_ (some 15) rfl rfl Try.func67 (by kernel_rfl) rfl #[.slice A1 l1.length c1] rfl (by (try simp only [List.map_toArray, List.map_cons, List.map_nil]); first | done | rfl | (simp only [List.length_drop, List.length_take]; rfl)) ?_; (with_reducible refine (abutmentlaw08_few.calls k _ _ l1 false _ ?side1 ?side2 A6.out).mono ?_); (case side1 => repeat (first | exact HR1.out | (with_reducible refine Kd.C_alloc ?_ _) | (with_reducible refine Kd.C_drewN ?_ _) | (with_reducible refine Kd.C_drew ?_))); (case side2 => exact HC1.out); rintro e w21 ⟨rfl, hb⟩; refine ⟨_, rfl, ?_⟩; have n0_ := Aside0.mk (below_step (by repeat (first | (with_reducible first | exact HB.out | apply below_alloc | apply pw_below_drewN | apply below_drew1) | exact HB.out)) hb); clear HB; have HB := n0_; clear n0_; (try clear hb); (try clear hb2); (try clear hk); (try clear hi)) | ((with_reducible refine gate_callee (f := 66) rfl ?_); refine goesL_ (some 17) rfl rfl Try.func66 (by kernel_rfl) rfl #[] rfl (by (try simp only [List.map_toArray, List.map_cons, List.map_nil]); first | done | rfl | (simp only [List.length_drop, List.length_take]; rfl)) ?_; (with_reducible refine (abutmentlaw08_lives.calls k  t146 _ A20.out).mono ?_); rintro e w22 ⟨rfl, hb⟩; refine ⟨_, rfl, ?_⟩; have n0_ := Aside0.mk (below_step (by repeat (first | (with_reducible first | exact HB.out | apply below_alloc | apply pw_below_drewN | apply below_drew1) | exact HB.out)) hb); clear HB; have HB := n0_; clear n0_; (try clear hb); (try clear hb2); (try clear hk); (try clear hi)))
        go_ret
        exact ⟨by first | rfl | (simp [errW_none, errW_some] <;> rfl) | (simp only [← hji3]; first | rfl | (simp [errW_none, errW_some] <;> rfl)) | (simp [*, errW_none, errW_some] <;> rfl), by repeat (first | (with_reducible first | exact HB.out | apply below_alloc | apply pw_below_drewN | apply below_drew1) | exact HB.out)⟩
    · rw [if_neg c5] at H
      exact absurd H (by simp)
  · rw [if_neg c4] at H
    exact absurd H (by simp)

-- function 24 (abutmentref01_Lower): its contract is proved in a text of its own

end Go.Proofs.Ytbelgmfhaddhmaa.V
-- sizes mended
