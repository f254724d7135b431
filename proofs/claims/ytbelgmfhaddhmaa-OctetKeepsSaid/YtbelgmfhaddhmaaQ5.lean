-- Written by a program of this session (ownprint.py) out of the translation. Not trusted: Lean checks it.
import Derived.Test.YtbelgmfhaddhmaaQ0
import Derived.Test.YtbelgmfhaddhmaaQ1
import Derived.Test.YtbelgmfhaddhmaaQ2
import Derived.Test.YtbelgmfhaddhmaaExtB
import Derived.Test.YtbelgmfhaddhmaaExtC
namespace Go.Proofs.Ytbelgmfhaddhmaa.Q
open Go.RowKit Go.Proofs.YtbelgmfhaddhmaaW.PrintWords Go.Proofs.YtbelgmfhaddhmaaW.PrintLast Go.Proofs.YtbelgmfhaddhmaaW.PrintMore
attribute [local go_sem] max2_int min2_int max_two min_two max_three min_three max_four min_four   -- for this text's walks alone
set_option linter.unusedVariables false
set_option linter.unusedSimpArgs false

/-! ### abutmentlaw01_OctetKeeps: function 6 -/
mutual
def abutmentlaw01_OctetKeeps.j0 : Nat → ByteArray → ByteArray → Bool → Option (Bool)
  | 0, _, _, _ => none
  | k + 1, x0, x8, x70 => if x70 = true then (some false) else ((octet_Trim.f k x8).bind fun t150 => (if t150.toList = x8.toList then (if 2 + x0.size ≤ 9223372036854775807 then (if ((⟨#[32, 9]⟩ : ByteArray) ++ x0).size + 2 ≤ 9223372036854775807 then ((octet_Trim.f k (((⟨#[32, 9]⟩ : ByteArray) ++ x0) ++ (⟨#[9, 32]⟩ : ByteArray))).bind fun t151 => (abutmentlaw01_OctetKeeps.j1 k x0 x8 (t151.toList != x8.toList))) else (none)) else (none)) else (abutmentlaw01_OctetKeeps.j1 k x0 x8 true)))
def abutmentlaw01_OctetKeeps.j1 : Nat → ByteArray → ByteArray → Bool → Option (Bool)
  | 0, _, _, _ => none
  | k + 1, x0, x8, x82 => if x82 = true then (some false) else (if (x8.size : Int) > 0 then (if 0 < (x8.size : Int) then (if (bt x8 0) = 32 then (abutmentlaw01_OctetKeeps.j2 k x0 x8 true) else (if (bt x8 0) = 9 then (abutmentlaw01_OctetKeeps.j2 k x0 x8 true) else (if 0 ≤ (wrap64 ((x8.size : Int) - 1)) then (if (wrap64 ((x8.size : Int) - 1)) < (x8.size : Int) then (if (bt x8 (wrap64 ((x8.size : Int) - 1))) = 32 then (abutmentlaw01_OctetKeeps.j2 k x0 x8 true) else (abutmentlaw01_OctetKeeps.j2 k x0 x8 ((bt x8 (wrap64 ((x8.size : Int) - 1))) == 9))) else (none)) else (none)))) else (none)) else (abutmentlaw01_OctetKeeps.j2 k x0 x8 false))
def abutmentlaw01_OctetKeeps.j2 : Nat → ByteArray → ByteArray → Bool → Option (Bool)
  | 0, _, _, _ => none
  | k + 1, x0, x8, x110 => if x110 = true then (some false) else ((octet_Token.f x0).bind fun t152 => (if t152 = true then (if x8.toList = x0.toList then ((octet_Visible.f x0).bind fun t153 => (if t153 = true then ((octet_Value.f x0).bind fun t154 => (if t154 = true then ((abutmentlaw01_lives.f k).bind fun t155 => (some t155)) else (some false))) else (some false))) else (some false)) else ((abutmentlaw01_lives.f k).bind fun t156 => (some t156))))
end
def abutmentlaw01_OctetKeeps.f (k : Nat) (a0 : ByteArray) (a1 : ByteArray) (a2 : ByteArray) : Option (Bool) := if 0 ≤ (mn (a0.size : Int) 3000) then (if (mn (a0.size : Int) 3000) ≤ (a0.size : Int) then (if 0 ≤ (mn (a1.size : Int) 3000) then (if (mn (a1.size : Int) 3000) ≤ (a1.size : Int) then (if 0 ≤ (mn (a2.size : Int) 3000) then (if (mn (a2.size : Int) 3000) ≤ (a2.size : Int) then ((octet_Lower.f (a0.extract 0 ((mn (a0.size : Int) 3000) : Int).toNat)).bind fun t141 => ((octet_Trim.f k (a0.extract 0 ((mn (a0.size : Int) 3000) : Int).toNat)).bind fun t142 => ((octet_Lower.f t141).bind fun t143 => (if t143.toList = t141.toList then (if (t141.size : Int) = ((a0.extract 0 ((mn (a0.size : Int) 3000) : Int).toNat).size : Int) then ((octet_Fold.f k (a0.extract 0 ((mn (a0.size : Int) 3000) : Int).toNat) t141).bind fun t144 => (if t144 = true then ((octet_Fold.f k (a0.extract 0 ((mn (a0.size : Int) 3000) : Int).toNat) (a1.extract 0 ((mn (a1.size : Int) 3000) : Int).toNat)).bind fun t145 => ((octet_Fold.f k (a1.extract 0 ((mn (a1.size : Int) 3000) : Int).toNat) (a0.extract 0 ((mn (a0.size : Int) 3000) : Int).toNat)).bind fun t146 => (if (t145 != t146) = true then (abutmentlaw01_OctetKeeps.j0 k (a0.extract 0 ((mn (a0.size : Int) 3000) : Int).toNat) t142 true) else ((octet_Fold.f k (a0.extract 0 ((mn (a0.size : Int) 3000) : Int).toNat) (a1.extract 0 ((mn (a1.size : Int) 3000) : Int).toNat)).bind fun t147 => (if t147 = true then ((octet_Fold.f k (a1.extract 0 ((mn (a1.size : Int) 3000) : Int).toNat) (a2.extract 0 ((mn (a2.size : Int) 3000) : Int).toNat)).bind fun t148 => (if t148 = true then ((octet_Fold.f k (a0.extract 0 ((mn (a0.size : Int) 3000) : Int).toNat) (a2.extract 0 ((mn (a2.size : Int) 3000) : Int).toNat)).bind fun t149 => (abutmentlaw01_OctetKeeps.j0 k (a0.extract 0 ((mn (a0.size : Int) 3000) : Int).toNat) t142 (!t149))) else (abutmentlaw01_OctetKeeps.j0 k (a0.extract 0 ((mn (a0.size : Int) 3000) : Int).toNat) t142 false))) else (abutmentlaw01_OctetKeeps.j0 k (a0.extract 0 ((mn (a0.size : Int) 3000) : Int).toNat) t142 false)))))) else (abutmentlaw01_OctetKeeps.j0 k (a0.extract 0 ((mn (a0.size : Int) 3000) : Int).toNat) t142 true))) else (abutmentlaw01_OctetKeeps.j0 k (a0.extract 0 ((mn (a0.size : Int) 3000) : Int).toNat) t142 true)) else (abutmentlaw01_OctetKeeps.j0 k (a0.extract 0 ((mn (a0.size : Int) 3000) : Int).toNat) t142 true))))) else (none)) else (none)) else (none)) else (none)) else (none)) else (none)
theorem abutmentlaw01_OctetKeeps.mono_l : ∀ k, (∀ y0 y1 y2, LeO (abutmentlaw01_OctetKeeps.j0 k y0 y1 y2) (abutmentlaw01_OctetKeeps.j0 (k + 1) y0 y1 y2)) ∧ (∀ y0 y1 y2, LeO (abutmentlaw01_OctetKeeps.j1 k y0 y1 y2) (abutmentlaw01_OctetKeeps.j1 (k + 1) y0 y1 y2)) ∧ (∀ y0 y1 y2, LeO (abutmentlaw01_OctetKeeps.j2 k y0 y1 y2) (abutmentlaw01_OctetKeeps.j2 (k + 1) y0 y1 y2))
  | 0 => ⟨fun _ _ _ r h => by simp [abutmentlaw01_OctetKeeps.j0] at h, fun _ _ _ r h => by simp [abutmentlaw01_OctetKeeps.j1] at h, fun _ _ _ r h => by simp [abutmentlaw01_OctetKeeps.j2] at h⟩
  | k + 1 => by
    obtain ⟨ih0, ih1, ih2⟩ := abutmentlaw01_OctetKeeps.mono_l k
    refine ⟨?_, ?_, ?_⟩
    · intro y0 y1 y2
      unfold abutmentlaw01_OctetKeeps.j0
      repeat' first
      | (with_reducible exact ih0 _ _ _)
      | (with_reducible exact ih1 _ _ _)
      | (with_reducible exact ih2 _ _ _)
      | (with_reducible exact abutmentlaw01_lives.mono _)
      | (with_reducible exact octet_Fold.mono _ _ _)
      | (with_reducible exact octet_Trim.mono _ _)
      | (with_reducible exact LeO.refl _)
      | (with_reducible exact LeO.none _)
      | (with_reducible refine LeO.ite ?_ ?_)
      | (with_reducible refine LeO.bind ?_ (fun _ => ?_))
      | exact ih0 _ _ _
      | exact ih1 _ _ _
      | exact ih2 _ _ _
      | exact abutmentlaw01_lives.mono _
      | exact octet_Fold.mono _ _ _
      | exact octet_Trim.mono _ _
      | exact LeO.none _
      | refine LeO.ite ?_ ?_
      | refine LeO.bind ?_ (fun _ => ?_)
    · intro y0 y1 y2
      unfold abutmentlaw01_OctetKeeps.j1
      repeat' first
      | (with_reducible exact ih0 _ _ _)
      | (with_reducible exact ih1 _ _ _)
      | (with_reducible exact ih2 _ _ _)
      | (with_reducible exact abutmentlaw01_lives.mono _)
      | (with_reducible exact octet_Fold.mono _ _ _)
      | (with_reducible exact octet_Trim.mono _ _)
      | (with_reducible exact LeO.refl _)
      | (with_reducible exact LeO.none _)
      | (with_reducible refine LeO.ite ?_ ?_)
      | (with_reducible refine LeO.bind ?_ (fun _ => ?_))
      | exact ih0 _ _ _
      | exact ih1 _ _ _
      | exact ih2 _ _ _
      | exact abutmentlaw01_lives.mono _
      | exact octet_Fold.mono _ _ _
      | exact octet_Trim.mono _ _
      | exact LeO.none _
      | refine LeO.ite ?_ ?_
      | refine LeO.bind ?_ (fun _ => ?_)
    · intro y0 y1 y2
      unfold abutmentlaw01_OctetKeeps.j2
      repeat' first
      | (with_reducible exact ih0 _ _ _)
      | (with_reducible exact ih1 _ _ _)
      | (with_reducible exact ih2 _ _ _)
      | (with_reducible exact abutmentlaw01_lives.mono _)
      | (with_reducible exact octet_Fold.mono _ _ _)
      | (with_reducible exact octet_Trim.mono _ _)
      | (with_reducible exact LeO.refl _)
      | (with_reducible exact LeO.none _)
      | (with_reducible refine LeO.ite ?_ ?_)
      | (with_reducible refine LeO.bind ?_ (fun _ => ?_))
      | exact ih0 _ _ _
      | exact ih1 _ _ _
      | exact ih2 _ _ _
      | exact abutmentlaw01_lives.mono _
      | exact octet_Fold.mono _ _ _
      | exact octet_Trim.mono _ _
      | exact LeO.none _
      | refine LeO.ite ?_ ?_
      | refine LeO.bind ?_ (fun _ => ?_)
theorem abutmentlaw01_OctetKeeps.mono : ∀ a0 a1 a2 k, LeO (abutmentlaw01_OctetKeeps.f k a0 a1 a2) (abutmentlaw01_OctetKeeps.f (k + 1) a0 a1 a2) := by
  intro a0 a1 a2 k
  obtain ⟨ih0, ih1, ih2⟩ := abutmentlaw01_OctetKeeps.mono_l k
  unfold abutmentlaw01_OctetKeeps.f
  repeat' first
      | (with_reducible exact ih0 _ _ _)
      | (with_reducible exact ih1 _ _ _)
      | (with_reducible exact ih2 _ _ _)
      | (with_reducible exact abutmentlaw01_lives.mono _)
      | (with_reducible exact octet_Fold.mono _ _ _)
      | (with_reducible exact octet_Trim.mono _ _)
      | (with_reducible exact LeO.refl _)
      | (with_reducible exact LeO.none _)
      | (with_reducible refine LeO.ite ?_ ?_)
      | (with_reducible refine LeO.bind ?_ (fun _ => ?_))
      | exact ih0 _ _ _
      | exact ih1 _ _ _
      | exact ih2 _ _ _
      | exact abutmentlaw01_lives.mono _
      | exact octet_Fold.mono _ _ _
      | exact octet_Trim.mono _ _
      | exact LeO.none _
      | refine LeO.ite ?_ ?_
      | refine LeO.bind ?_ (fun _ => ?_)
set_option maxHeartbeats 8000000 in
set_option maxRecDepth 100000 in
theorem abutmentlaw01_OctetKeeps.calls (k : Nat) (a0 : ByteArray) (a1 : ByteArray) (a2 : ByteArray) (r : Bool) (w : World) (h : abutmentlaw01_OctetKeeps.f k a0 a1 a2 = some r) :
    Calls Try.prog 6 #[.string a0, .string a1, .string a2] w fun e w' => e = .returned (.bool r) ∧ Below w.heap.size w w' := by
  have HB := Aside0.mk (Below.refl w.heap.size w)
  have H : (if 0 ≤ (mn (a0.size : Int) 3000) then (if (mn (a0.size : Int) 3000) ≤ (a0.size : Int) then (if 0 ≤ (mn (a1.size : Int) 3000) then (if (mn (a1.size : Int) 3000) ≤ (a1.size : Int) then (if 0 ≤ (mn (a2.size : Int) 3000) then (if (mn (a2.size : Int) 3000) ≤ (a2.size : Int) then ((octet_Lower.f (a0.extract 0 ((mn (a0.size : Int) 3000) : Int).toNat)).bind fun t141 => ((octet_Trim.f k (a0.extract 0 ((mn (a0.size : Int) 3000) : Int).toNat)).bind fun t142 => ((octet_Lower.f t141).bind fun t143 => (if t143.toList = t141.toList then (if (t141.size : Int) = ((a0.extract 0 ((mn (a0.size : Int) 3000) : Int).toNat).size : Int) then ((octet_Fold.f k (a0.extract 0 ((mn (a0.size : Int) 3000) : Int).toNat) t141).bind fun t144 => (if t144 = true then ((octet_Fold.f k (a0.extract 0 ((mn (a0.size : Int) 3000) : Int).toNat) (a1.extract 0 ((mn (a1.size : Int) 3000) : Int).toNat)).bind fun t145 => ((octet_Fold.f k (a1.extract 0 ((mn (a1.size : Int) 3000) : Int).toNat) (a0.extract 0 ((mn (a0.size : Int) 3000) : Int).toNat)).bind fun t146 => (if (t145 != t146) = true then (abutmentlaw01_OctetKeeps.j0 k (a0.extract 0 ((mn (a0.size : Int) 3000) : Int).toNat) t142 true) else ((octet_Fold.f k (a0.extract 0 ((mn (a0.size : Int) 3000) : Int).toNat) (a1.extract 0 ((mn (a1.size : Int) 3000) : Int).toNat)).bind fun t147 => (if t147 = true then ((octet_Fold.f k (a1.extract 0 ((mn (a1.size : Int) 3000) : Int).toNat) (a2.extract 0 ((mn (a2.size : Int) 3000) : Int).toNat)).bind fun t148 => (if t148 = true then ((octet_Fold.f k (a0.extract 0 ((mn (a0.size : Int) 3000) : Int).toNat) (a2.extract 0 ((mn (a2.size : Int) 3000) : Int).toNat)).bind fun t149 => (abutmentlaw01_OctetKeeps.j0 k (a0.extract 0 ((mn (a0.size : Int) 3000) : Int).toNat) t142 (!t149))) else (abutmentlaw01_OctetKeeps.j0 k (a0.extract 0 ((mn (a0.size : Int) 3000) : Int).toNat) t142 false))) else (abutmentlaw01_OctetKeeps.j0 k (a0.extract 0 ((mn (a0.size : Int) 3000) : Int).toNat) t142 false)))))) else (abutmentlaw01_OctetKeeps.j0 k (a0.extract 0 ((mn (a0.size : Int) 3000) : Int).toNat) t142 true))) else (abutmentlaw01_OctetKeeps.j0 k (a0.extract 0 ((mn (a0.size : Int) 3000) : Int).toNat) t142 true)) else (abutmentlaw01_OctetKeeps.j0 k (a0.extract 0 ((mn (a0.size : Int) 3000) : Int).toNat) t142 true))))) else (none)) else (none)) else (none)) else (none)) else (none)) else (none)) = some r := h
  clear h
  obtain ⟨ji4, hji4⟩ : ∃ j_ : Int, (mn (a0.size : Int) 3000) = j_ := ⟨_, rfl⟩
  replace H : (if 0 ≤ (ji4) then (if (ji4) ≤ (a0.size : Int) then (if 0 ≤ (mn (a1.size : Int) 3000) then (if (mn (a1.size : Int) 3000) ≤ (a1.size : Int) then (if 0 ≤ (mn (a2.size : Int) 3000) then (if (mn (a2.size : Int) 3000) ≤ (a2.size : Int) then ((octet_Lower.f (a0.extract 0 ((ji4) : Int).toNat)).bind fun t141 => ((octet_Trim.f k (a0.extract 0 ((ji4) : Int).toNat)).bind fun t142 => ((octet_Lower.f t141).bind fun t143 => (if t143.toList = t141.toList then (if (t141.size : Int) = ((a0.extract 0 ((ji4) : Int).toNat).size : Int) then ((octet_Fold.f k (a0.extract 0 ((ji4) : Int).toNat) t141).bind fun t144 => (if t144 = true then ((octet_Fold.f k (a0.extract 0 ((ji4) : Int).toNat) (a1.extract 0 ((mn (a1.size : Int) 3000) : Int).toNat)).bind fun t145 => ((octet_Fold.f k (a1.extract 0 ((mn (a1.size : Int) 3000) : Int).toNat) (a0.extract 0 ((ji4) : Int).toNat)).bind fun t146 => (if (t145 != t146) = true then (abutmentlaw01_OctetKeeps.j0 k (a0.extract 0 ((ji4) : Int).toNat) t142 true) else ((octet_Fold.f k (a0.extract 0 ((ji4) : Int).toNat) (a1.extract 0 ((mn (a1.size : Int) 3000) : Int).toNat)).bind fun t147 => (if t147 = true then ((octet_Fold.f k (a1.extract 0 ((mn (a1.size : Int) 3000) : Int).toNat) (a2.extract 0 ((mn (a2.size : Int) 3000) : Int).toNat)).bind fun t148 => (if t148 = true then ((octet_Fold.f k (a0.extract 0 ((ji4) : Int).toNat) (a2.extract 0 ((mn (a2.size : Int) 3000) : Int).toNat)).bind fun t149 => (abutmentlaw01_OctetKeeps.j0 k (a0.extract 0 ((ji4) : Int).toNat) t142 (!t149))) else (abutmentlaw01_OctetKeeps.j0 k (a0.extract 0 ((ji4) : Int).toNat) t142 false))) else (abutmentlaw01_OctetKeeps.j0 k (a0.extract 0 ((ji4) : Int).toNat) t142 false)))))) else (abutmentlaw01_OctetKeeps.j0 k (a0.extract 0 ((ji4) : Int).toNat) t142 true))) else (abutmentlaw01_OctetKeeps.j0 k (a0.extract 0 ((ji4) : Int).toNat) t142 true)) else (abutmentlaw01_OctetKeeps.j0 k (a0.extract 0 ((ji4) : Int).toNat) t142 true))))) else (none)) else (none)) else (none)) else (none)) else (none)) else (none)) = some r := by first | (rw [hji4] at H; exact H) | (simp only [hji4] at H ⊢; exact H)
  (try (have hji4h : ji4 ≤ 3000 := by (rw [← hji4]; unfold mn; (repeat' split) <;> omega)))
  (try (have hji4g : ji4 ≤ 64 := by omega))
  (try (have hji4l : 0 ≤ ji4 := by (rw [← hji4]; unfold mn; (repeat' split) <;> omega)))
  (try (have hji4m : 0 ≤ ji4 := by omega))
  have hji4_ : (if 3000 < (a0.size : Int) then 3000 else (a0.size : Int)) = ji4 := hji4
  by_cases c5 : 0 ≤ (ji4)
  · rw [if_pos c5] at H
    have c5b0 := eq_true c5
    have c5b1 : decide (0 ≤ (ji4)) = true := decide_eq_true c5
    clear c5
    by_cases c6 : (ji4) ≤ (a0.size : Int)
    · rw [if_pos c6] at H
      have c6b0 := eq_true c6
      have c6b1 : decide ((ji4) ≤ (a0.size : Int)) = true := decide_eq_true c6
      clear c6
      obtain ⟨ji7, hji7⟩ : ∃ j_ : Int, (mn (a1.size : Int) 3000) = j_ := ⟨_, rfl⟩
      replace H : (if 0 ≤ (ji7) then (if (ji7) ≤ (a1.size : Int) then (if 0 ≤ (mn (a2.size : Int) 3000) then (if (mn (a2.size : Int) 3000) ≤ (a2.size : Int) then ((octet_Lower.f (a0.extract 0 ((ji4) : Int).toNat)).bind fun t141 => ((octet_Trim.f k (a0.extract 0 ((ji4) : Int).toNat)).bind fun t142 => ((octet_Lower.f t141).bind fun t143 => (if t143.toList = t141.toList then (if (t141.size : Int) = ((a0.extract 0 ((ji4) : Int).toNat).size : Int) then ((octet_Fold.f k (a0.extract 0 ((ji4) : Int).toNat) t141).bind fun t144 => (if t144 = true then ((octet_Fold.f k (a0.extract 0 ((ji4) : Int).toNat) (a1.extract 0 ((ji7) : Int).toNat)).bind fun t145 => ((octet_Fold.f k (a1.extract 0 ((ji7) : Int).toNat) (a0.extract 0 ((ji4) : Int).toNat)).bind fun t146 => (if (t145 != t146) = true then (abutmentlaw01_OctetKeeps.j0 k (a0.extract 0 ((ji4) : Int).toNat) t142 true) else ((octet_Fold.f k (a0.extract 0 ((ji4) : Int).toNat) (a1.extract 0 ((ji7) : Int).toNat)).bind fun t147 => (if t147 = true then ((octet_Fold.f k (a1.extract 0 ((ji7) : Int).toNat) (a2.extract 0 ((mn (a2.size : Int) 3000) : Int).toNat)).bind fun t148 => (if t148 = true then ((octet_Fold.f k (a0.extract 0 ((ji4) : Int).toNat) (a2.extract 0 ((mn (a2.size : Int) 3000) : Int).toNat)).bind fun t149 => (abutmentlaw01_OctetKeeps.j0 k (a0.extract 0 ((ji4) : Int).toNat) t142 (!t149))) else (abutmentlaw01_OctetKeeps.j0 k (a0.extract 0 ((ji4) : Int).toNat) t142 false))) else (abutmentlaw01_OctetKeeps.j0 k (a0.extract 0 ((ji4) : Int).toNat) t142 false)))))) else (abutmentlaw01_OctetKeeps.j0 k (a0.extract 0 ((ji4) : Int).toNat) t142 true))) else (abutmentlaw01_OctetKeeps.j0 k (a0.extract 0 ((ji4) : Int).toNat) t142 true)) else (abutmentlaw01_OctetKeeps.j0 k (a0.extract 0 ((ji4) : Int).toNat) t142 true))))) else (none)) else (none)) else (none)) else (none)) = some r := by first | (rw [hji7] at H; exact H) | (simp only [hji7] at H ⊢; exact H)
      (try (have hji7h : ji7 ≤ 3000 := by (rw [← hji7]; unfold mn; (repeat' split) <;> omega)))
      (try (have hji7g : ji7 ≤ 64 := by omega))
      (try (have hji7l : 0 ≤ ji7 := by (rw [← hji7]; unfold mn; (repeat' split) <;> omega)))
      (try (have hji7m : 0 ≤ ji7 := by omega))
      have hji7_ : (if 3000 < (a1.size : Int) then 3000 else (a1.size : Int)) = ji7 := hji7
      by_cases c8 : 0 ≤ (ji7)
      · rw [if_pos c8] at H
        have c8b0 := eq_true c8
        have c8b1 : decide (0 ≤ (ji7)) = true := decide_eq_true c8
        clear c8
        by_cases c9 : (ji7) ≤ (a1.size : Int)
        · rw [if_pos c9] at H
          have c9b0 := eq_true c9
          have c9b1 : decide ((ji7) ≤ (a1.size : Int)) = true := decide_eq_true c9
          clear c9
          obtain ⟨ji10, hji10⟩ : ∃ j_ : Int, (mn (a2.size : Int) 3000) = j_ := ⟨_, rfl⟩
          replace H : (if 0 ≤ (ji10) then (if (ji10) ≤ (a2.size : Int) then ((octet_Lower.f (a0.extract 0 ((ji4) : Int).toNat)).bind fun t141 => ((octet_Trim.f k (a0.extract 0 ((ji4) : Int).toNat)).bind fun t142 => ((octet_Lower.f t141).bind fun t143 => (if t143.toList = t141.toList then (if (t141.size : Int) = ((a0.extract 0 ((ji4) : Int).toNat).size : Int) then ((octet_Fold.f k (a0.extract 0 ((ji4) : Int).toNat) t141).bind fun t144 => (if t144 = true then ((octet_Fold.f k (a0.extract 0 ((ji4) : Int).toNat) (a1.extract 0 ((ji7) : Int).toNat)).bind fun t145 => ((octet_Fold.f k (a1.extract 0 ((ji7) : Int).toNat) (a0.extract 0 ((ji4) : Int).toNat)).bind fun t146 => (if (t145 != t146) = true then (abutmentlaw01_OctetKeeps.j0 k (a0.extract 0 ((ji4) : Int).toNat) t142 true) else ((octet_Fold.f k (a0.extract 0 ((ji4) : Int).toNat) (a1.extract 0 ((ji7) : Int).toNat)).bind fun t147 => (if t147 = true then ((octet_Fold.f k (a1.extract 0 ((ji7) : Int).toNat) (a2.extract 0 ((ji10) : Int).toNat)).bind fun t148 => (if t148 = true then ((octet_Fold.f k (a0.extract 0 ((ji4) : Int).toNat) (a2.extract 0 ((ji10) : Int).toNat)).bind fun t149 => (abutmentlaw01_OctetKeeps.j0 k (a0.extract 0 ((ji4) : Int).toNat) t142 (!t149))) else (abutmentlaw01_OctetKeeps.j0 k (a0.extract 0 ((ji4) : Int).toNat) t142 false))) else (abutmentlaw01_OctetKeeps.j0 k (a0.extract 0 ((ji4) : Int).toNat) t142 false)))))) else (abutmentlaw01_OctetKeeps.j0 k (a0.extract 0 ((ji4) : Int).toNat) t142 true))) else (abutmentlaw01_OctetKeeps.j0 k (a0.extract 0 ((ji4) : Int).toNat) t142 true)) else (abutmentlaw01_OctetKeeps.j0 k (a0.extract 0 ((ji4) : Int).toNat) t142 true))))) else (none)) else (none)) = some r := by first | (rw [hji10] at H; exact H) | (simp only [hji10] at H ⊢; exact H)
          (try (have hji10h : ji10 ≤ 3000 := by (rw [← hji10]; unfold mn; (repeat' split) <;> omega)))
          (try (have hji10g : ji10 ≤ 64 := by omega))
          (try (have hji10l : 0 ≤ ji10 := by (rw [← hji10]; unfold mn; (repeat' split) <;> omega)))
          (try (have hji10m : 0 ≤ ji10 := by omega))
          have hji10_ : (if 3000 < (a2.size : Int) then 3000 else (a2.size : Int)) = ji10 := hji10
          by_cases c11 : 0 ≤ (ji10)
          · rw [if_pos c11] at H
            have c11b0 := eq_true c11
            have c11b1 : decide (0 ≤ (ji10)) = true := decide_eq_true c11
            clear c11
            by_cases c12 : (ji10) ≤ (a2.size : Int)
            · rw [if_pos c12] at H
              have c12b0 := eq_true c12
              have c12b1 : decide ((ji10) ≤ (a2.size : Int)) = true := decide_eq_true c12
              clear c12
              replace H := Option.bind_eq_some_iff.mp H
              obtain ⟨t141, A130, H⟩ := H
              replace H : ((octet_Trim.f k (a0.extract 0 ((ji4) : Int).toNat)).bind fun t142 => ((octet_Lower.f t141).bind fun t143 => (if t143.toList = t141.toList then (if (t141.size : Int) = ((a0.extract 0 ((ji4) : Int).toNat).size : Int) then ((octet_Fold.f k (a0.extract 0 ((ji4) : Int).toNat) t141).bind fun t144 => (if t144 = true then ((octet_Fold.f k (a0.extract 0 ((ji4) : Int).toNat) (a1.extract 0 ((ji7) : Int).toNat)).bind fun t145 => ((octet_Fold.f k (a1.extract 0 ((ji7) : Int).toNat) (a0.extract 0 ((ji4) : Int).toNat)).bind fun t146 => (if (t145 != t146) = true then (abutmentlaw01_OctetKeeps.j0 k (a0.extract 0 ((ji4) : Int).toNat) t142 true) else ((octet_Fold.f k (a0.extract 0 ((ji4) : Int).toNat) (a1.extract 0 ((ji7) : Int).toNat)).bind fun t147 => (if t147 = true then ((octet_Fold.f k (a1.extract 0 ((ji7) : Int).toNat) (a2.extract 0 ((ji10) : Int).toNat)).bind fun t148 => (if t148 = true then ((octet_Fold.f k (a0.extract 0 ((ji4) : Int).toNat) (a2.extract 0 ((ji10) : Int).toNat)).bind fun t149 => (abutmentlaw01_OctetKeeps.j0 k (a0.extract 0 ((ji4) : Int).toNat) t142 (!t149))) else (abutmentlaw01_OctetKeeps.j0 k (a0.extract 0 ((ji4) : Int).toNat) t142 false))) else (abutmentlaw01_OctetKeeps.j0 k (a0.extract 0 ((ji4) : Int).toNat) t142 false)))))) else (abutmentlaw01_OctetKeeps.j0 k (a0.extract 0 ((ji4) : Int).toNat) t142 true))) else (abutmentlaw01_OctetKeeps.j0 k (a0.extract 0 ((ji4) : Int).toNat) t142 true)) else (abutmentlaw01_OctetKeeps.j0 k (a0.extract 0 ((ji4) : Int).toNat) t142 true)))) = some r := H
              have A13 := Aside0.mk A130
              clear A130
              replace H := Option.bind_eq_some_iff.mp H
              obtain ⟨t142, A140, H⟩ := H
              replace H : ((octet_Lower.f t141).bind fun t143 => (if t143.toList = t141.toList then (if (t141.size : Int) = ((a0.extract 0 ((ji4) : Int).toNat).size : Int) then ((octet_Fold.f k (a0.extract 0 ((ji4) : Int).toNat) t141).bind fun t144 => (if t144 = true then ((octet_Fold.f k (a0.extract 0 ((ji4) : Int).toNat) (a1.extract 0 ((ji7) : Int).toNat)).bind fun t145 => ((octet_Fold.f k (a1.extract 0 ((ji7) : Int).toNat) (a0.extract 0 ((ji4) : Int).toNat)).bind fun t146 => (if (t145 != t146) = true then (abutmentlaw01_OctetKeeps.j0 k (a0.extract 0 ((ji4) : Int).toNat) t142 true) else ((octet_Fold.f k (a0.extract 0 ((ji4) : Int).toNat) (a1.extract 0 ((ji7) : Int).toNat)).bind fun t147 => (if t147 = true then ((octet_Fold.f k (a1.extract 0 ((ji7) : Int).toNat) (a2.extract 0 ((ji10) : Int).toNat)).bind fun t148 => (if t148 = true then ((octet_Fold.f k (a0.extract 0 ((ji4) : Int).toNat) (a2.extract 0 ((ji10) : Int).toNat)).bind fun t149 => (abutmentlaw01_OctetKeeps.j0 k (a0.extract 0 ((ji4) : Int).toNat) t142 (!t149))) else (abutmentlaw01_OctetKeeps.j0 k (a0.extract 0 ((ji4) : Int).toNat) t142 false))) else (abutmentlaw01_OctetKeeps.j0 k (a0.extract 0 ((ji4) : Int).toNat) t142 false)))))) else (abutmentlaw01_OctetKeeps.j0 k (a0.extract 0 ((ji4) : Int).toNat) t142 true))) else (abutmentlaw01_OctetKeeps.j0 k (a0.extract 0 ((ji4) : Int).toNat) t142 true)) else (abutmentlaw01_OctetKeeps.j0 k (a0.extract 0 ((ji4) : Int).toNat) t142 true))) = some r := H
              have A14 := Aside0.mk A140
              clear A140
              have HC15 := Aside0.mk H
              clear H
              go_enter Try.func6, Try.ntmps6
              go_upto_region 3 with (first | (go_at_call 23; (with_reducible refine (octet_Lower.calls (a0.extract 0 ((ji4) : Int).toNat) t141 _ A13.out).mono ?_); rintro e w16 ⟨rfl, hb⟩; have n0_ := Aside0.mk (below_step (by repeat (first | (with_reducible first | exact HB.out | apply below_alloc | apply pw_below_drewN | apply below_drew1) | exact HB.out)) hb); clear HB; have HB := n0_; clear n0_; (try clear hb); (try clear hb2); (try clear hk); (try clear hi)) | (go_at_call 26; (with_reducible refine (octet_Trim.calls k (a0.extract 0 ((ji4) : Int).toNat) t142 _ A14.out).mono ?_); rintro e w' ⟨rfl, ⟨nd, rfl⟩⟩; (try first | exact ⟨rfl, _, World.drewN_drewN _ _ _⟩ | exact ⟨rfl, _, Eq.trans (World.drewN_drewN _ _ _) (congrArg (World.drewN _) (Nat.add_assoc _ _ _))⟩)))
              repeat (go_quiet (first | (go_at_call 23; (with_reducible refine (octet_Lower.calls (a0.extract 0 ((ji4) : Int).toNat) t141 _ A13.out).mono ?_); rintro e w16 ⟨rfl, hb⟩; have n0_ := Aside0.mk (below_step (by repeat (first | (with_reducible first | exact HB.out | apply below_alloc | apply pw_below_drewN | apply below_drew1) | exact HB.out)) hb); clear HB; have HB := n0_; clear n0_; (try clear hb); (try clear hb2); (try clear hk); (try clear hi)) | (go_at_call 26; (with_reducible refine (octet_Trim.calls k (a0.extract 0 ((ji4) : Int).toNat) t142 _ A14.out).mono ?_); rintro e w' ⟨rfl, ⟨nd, rfl⟩⟩; (try first | exact ⟨rfl, _, World.drewN_drewN _ _ _⟩ | exact ⟨rfl, _, Eq.trans (World.drewN_drewN _ _ _) (congrArg (World.drewN _) (Nat.add_assoc _ _ _))⟩))); go_upto_region 3 with (first | (go_at_call 23; (with_reducible refine (octet_Lower.calls (a0.extract 0 ((ji4) : Int).toNat) t141 _ A13.out).mono ?_); rintro e w16 ⟨rfl, hb⟩; have n0_ := Aside0.mk (below_step (by repeat (first | (with_reducible first | exact HB.out | apply below_alloc | apply pw_below_drewN | apply below_drew1) | exact HB.out)) hb); clear HB; have HB := n0_; clear n0_; (try clear hb); (try clear hb2); (try clear hk); (try clear hi)) | (go_at_call 26; (with_reducible refine (octet_Trim.calls k (a0.extract 0 ((ji4) : Int).toNat) t142 _ A14.out).mono ?_); rintro e w' ⟨rfl, ⟨nd, rfl⟩⟩; (try first | exact ⟨rfl, _, World.drewN_drewN _ _ _⟩ | exact ⟨rfl, _, Eq.trans (World.drewN_drewN _ _ _) (congrArg (World.drewN _) (Nat.add_assoc _ _ _))⟩))))
              (try simp only [Act.put, List.setIfInBounds_toArray, List.set_cons_zero, List.set_cons_succ])
              go_cut [70] (fun v70 wc => ∃ (kq : Nat) (x70_14 : Bool), v70 = .bool x70_14 ∧ Aside0 (abutmentlaw01_OctetKeeps.j0 kq (a0.extract 0 ((ji4) : Int).toNat) t142 x70_14 = some r) ∧ Aside0 (kq ≤ k) ∧ Aside0 (Below w.heap.size w wc))
              case first =>
                have H := HC15.out
                clear HC15
                replace H := Option.bind_eq_some_iff.mp H
                obtain ⟨t143, A170, H⟩ := H
                replace H : (if t143.toList = t141.toList then (if (t141.size : Int) = ((a0.extract 0 ((ji4) : Int).toNat).size : Int) then ((octet_Fold.f k (a0.extract 0 ((ji4) : Int).toNat) t141).bind fun t144 => (if t144 = true then ((octet_Fold.f k (a0.extract 0 ((ji4) : Int).toNat) (a1.extract 0 ((ji7) : Int).toNat)).bind fun t145 => ((octet_Fold.f k (a1.extract 0 ((ji7) : Int).toNat) (a0.extract 0 ((ji4) : Int).toNat)).bind fun t146 => (if (t145 != t146) = true then (abutmentlaw01_OctetKeeps.j0 k (a0.extract 0 ((ji4) : Int).toNat) t142 true) else ((octet_Fold.f k (a0.extract 0 ((ji4) : Int).toNat) (a1.extract 0 ((ji7) : Int).toNat)).bind fun t147 => (if t147 = true then ((octet_Fold.f k (a1.extract 0 ((ji7) : Int).toNat) (a2.extract 0 ((ji10) : Int).toNat)).bind fun t148 => (if t148 = true then ((octet_Fold.f k (a0.extract 0 ((ji4) : Int).toNat) (a2.extract 0 ((ji10) : Int).toNat)).bind fun t149 => (abutmentlaw01_OctetKeeps.j0 k (a0.extract 0 ((ji4) : Int).toNat) t142 (!t149))) else (abutmentlaw01_OctetKeeps.j0 k (a0.extract 0 ((ji4) : Int).toNat) t142 false))) else (abutmentlaw01_OctetKeeps.j0 k (a0.extract 0 ((ji4) : Int).toNat) t142 false)))))) else (abutmentlaw01_OctetKeeps.j0 k (a0.extract 0 ((ji4) : Int).toNat) t142 true))) else (abutmentlaw01_OctetKeeps.j0 k (a0.extract 0 ((ji4) : Int).toNat) t142 true)) else (abutmentlaw01_OctetKeeps.j0 k (a0.extract 0 ((ji4) : Int).toNat) t142 true)) = some r := H
                have A17 := Aside0.mk A170
                clear A170
                by_cases c18 : t143.toList = t141.toList
                · rw [if_pos c18] at H
                  have c18b0 : (t143.toList == t141.toList) = true := beq_iff_eq.mpr c18
                  have c18b1 : (t143.toList != t141.toList) = false := bne_eq_false_iff_eq.mpr c18
                  clear c18
                  (first | rw [c18b0] | (simp only [i64_w, i32_w]; rw [c18b0]) | skip)
                  by_cases c19 : (t141.size : Int) = ((a0.extract 0 ((ji4) : Int).toNat).size : Int)
                  · rw [if_pos c19] at H
                    have c19b0 : ((t141.size : Int) == ((a0.extract 0 ((ji4) : Int).toNat).size : Int)) = true := beq_iff_eq.mpr c19
                    have c19s : ((a0.extract 0 ((ji4) : Int).toNat).size : Int) = max ji4 0 := by rw [ByteArray.size_extract]; omega
                    have c19e : ((t141.size : Int) == max ji4 0) = true := by rw [← c19s]; exact c19b0
                    have c19e1 : ((t141.size : Int) != max ji4 0) = !true := by rw [bne, c19e]
                    simp only [Bool.not_true, Bool.not_false] at c19e1
                    clear c19s
                    have c19b1 : ((t141.size : Int) != ((a0.extract 0 ((ji4) : Int).toNat).size : Int)) = false := bne_eq_false_iff_eq.mpr c19
                    have c19b2 : (t141.size == (a0.extract 0 ((ji4) : Int).toNat).size) = true := by first | simpa using c19 | (simp at c19 ⊢; omega)
                    clear c19
                    replace H := Option.bind_eq_some_iff.mp H
                    obtain ⟨t144, A200, H⟩ := H
                    replace H : (if t144 = true then ((octet_Fold.f k (a0.extract 0 ((ji4) : Int).toNat) (a1.extract 0 ((ji7) : Int).toNat)).bind fun t145 => ((octet_Fold.f k (a1.extract 0 ((ji7) : Int).toNat) (a0.extract 0 ((ji4) : Int).toNat)).bind fun t146 => (if (t145 != t146) = true then (abutmentlaw01_OctetKeeps.j0 k (a0.extract 0 ((ji4) : Int).toNat) t142 true) else ((octet_Fold.f k (a0.extract 0 ((ji4) : Int).toNat) (a1.extract 0 ((ji7) : Int).toNat)).bind fun t147 => (if t147 = true then ((octet_Fold.f k (a1.extract 0 ((ji7) : Int).toNat) (a2.extract 0 ((ji10) : Int).toNat)).bind fun t148 => (if t148 = true then ((octet_Fold.f k (a0.extract 0 ((ji4) : Int).toNat) (a2.extract 0 ((ji10) : Int).toNat)).bind fun t149 => (abutmentlaw01_OctetKeeps.j0 k (a0.extract 0 ((ji4) : Int).toNat) t142 (!t149))) else (abutmentlaw01_OctetKeeps.j0 k (a0.extract 0 ((ji4) : Int).toNat) t142 false))) else (abutmentlaw01_OctetKeeps.j0 k (a0.extract 0 ((ji4) : Int).toNat) t142 false)))))) else (abutmentlaw01_OctetKeeps.j0 k (a0.extract 0 ((ji4) : Int).toNat) t142 true)) = some r := H
                    have A20 := Aside0.mk A200
                    clear A200
                    by_cases c21 : t144 = true
                    · subst c21
                      have H1 : ((octet_Fold.f k (a0.extract 0 ((ji4) : Int).toNat) (a1.extract 0 ((ji7) : Int).toNat)).bind fun t145 => ((octet_Fold.f k (a1.extract 0 ((ji7) : Int).toNat) (a0.extract 0 ((ji4) : Int).toNat)).bind fun t146 => (if (t145 != t146) = true then (abutmentlaw01_OctetKeeps.j0 k (a0.extract 0 ((ji4) : Int).toNat) t142 true) else ((octet_Fold.f k (a0.extract 0 ((ji4) : Int).toNat) (a1.extract 0 ((ji7) : Int).toNat)).bind fun t147 => (if t147 = true then ((octet_Fold.f k (a1.extract 0 ((ji7) : Int).toNat) (a2.extract 0 ((ji10) : Int).toNat)).bind fun t148 => (if t148 = true then ((octet_Fold.f k (a0.extract 0 ((ji4) : Int).toNat) (a2.extract 0 ((ji10) : Int).toNat)).bind fun t149 => (abutmentlaw01_OctetKeeps.j0 k (a0.extract 0 ((ji4) : Int).toNat) t142 (!t149))) else (abutmentlaw01_OctetKeeps.j0 k (a0.extract 0 ((ji4) : Int).toNat) t142 false))) else (abutmentlaw01_OctetKeeps.j0 k (a0.extract 0 ((ji4) : Int).toNat) t142 false)))))) = some r := by rw [if_pos rfl] at H; exact H
                      clear H
                      have H := H1
                      clear H1
                      replace H := Option.bind_eq_some_iff.mp H
                      obtain ⟨t145, A220, H⟩ := H
                      replace H : ((octet_Fold.f k (a1.extract 0 ((ji7) : Int).toNat) (a0.extract 0 ((ji4) : Int).toNat)).bind fun t146 => (if (t145 != t146) = true then (abutmentlaw01_OctetKeeps.j0 k (a0.extract 0 ((ji4) : Int).toNat) t142 true) else ((octet_Fold.f k (a0.extract 0 ((ji4) : Int).toNat) (a1.extract 0 ((ji7) : Int).toNat)).bind fun t147 => (if t147 = true then ((octet_Fold.f k (a1.extract 0 ((ji7) : Int).toNat) (a2.extract 0 ((ji10) : Int).toNat)).bind fun t148 => (if t148 = true then ((octet_Fold.f k (a0.extract 0 ((ji4) : Int).toNat) (a2.extract 0 ((ji10) : Int).toNat)).bind fun t149 => (abutmentlaw01_OctetKeeps.j0 k (a0.extract 0 ((ji4) : Int).toNat) t142 (!t149))) else (abutmentlaw01_OctetKeeps.j0 k (a0.extract 0 ((ji4) : Int).toNat) t142 false))) else (abutmentlaw01_OctetKeeps.j0 k (a0.extract 0 ((ji4) : Int).toNat) t142 false))))) = some r := H
                      have A22 := Aside0.mk A220
                      clear A220
                      replace H := Option.bind_eq_some_iff.mp H
                      obtain ⟨t146, A230, H⟩ := H
                      replace H : (if (t145 != t146) = true then (abutmentlaw01_OctetKeeps.j0 k (a0.extract 0 ((ji4) : Int).toNat) t142 true) else ((octet_Fold.f k (a0.extract 0 ((ji4) : Int).toNat) (a1.extract 0 ((ji7) : Int).toNat)).bind fun t147 => (if t147 = true then ((octet_Fold.f k (a1.extract 0 ((ji7) : Int).toNat) (a2.extract 0 ((ji10) : Int).toNat)).bind fun t148 => (if t148 = true then ((octet_Fold.f k (a0.extract 0 ((ji4) : Int).toNat) (a2.extract 0 ((ji10) : Int).toNat)).bind fun t149 => (abutmentlaw01_OctetKeeps.j0 k (a0.extract 0 ((ji4) : Int).toNat) t142 (!t149))) else (abutmentlaw01_OctetKeeps.j0 k (a0.extract 0 ((ji4) : Int).toNat) t142 false))) else (abutmentlaw01_OctetKeeps.j0 k (a0.extract 0 ((ji4) : Int).toNat) t142 false)))) = some r := H
                      have A23 := Aside0.mk A230
                      clear A230
                      by_cases c24 : (t145 != t146) = true
                      · rw [if_pos c24] at H
                        have c24b0 : (t145 != t146) = true := c24
                        (try (have c24b1 : decide (t145 = t146) = false := by simpa using c24))
                        (try (have c24b2 : (t145 == t146) = false := by simpa using c24))
                        (try (have c24b3 : ¬ (t145 = t146) := by simpa using c24))
                        clear c24
                        have H' := Aside0.mk H
                        clear H
                        go_wp2_with (first | (go_at_call 23; (with_reducible refine (octet_Lower.calls t141 t143 _ A17.out).mono ?_); rintro e w25 ⟨rfl, hb⟩; have n0_ := Aside0.mk (below_step (by repeat (first | (with_reducible first | exact HB.out | apply below_alloc | apply pw_below_drewN | apply below_drew1) | exact HB.out)) hb); clear HB; have HB := n0_; clear n0_; (try clear hb); (try clear hb2); (try clear hk); (try clear hi)) | (go_at_call 25; (with_reducible refine (octet_Fold.calls k (a0.extract 0 ((ji4) : Int).toNat) t141 true _ A20.out).mono ?_); rintro e w' ⟨rfl, ⟨nd, rfl⟩⟩; (try first | exact ⟨rfl, _, World.drewN_drewN _ _ _⟩ | exact ⟨rfl, _, Eq.trans (World.drewN_drewN _ _ _) (congrArg (World.drewN _) (Nat.add_assoc _ _ _))⟩)) | (go_at_call 25; (with_reducible refine (octet_Fold.calls k (a0.extract 0 ((ji4) : Int).toNat) (a1.extract 0 ((ji7) : Int).toNat) t145 _ A22.out).mono ?_); rintro e w' ⟨rfl, ⟨nd, rfl⟩⟩; (try first | exact ⟨rfl, _, World.drewN_drewN _ _ _⟩ | exact ⟨rfl, _, Eq.trans (World.drewN_drewN _ _ _) (congrArg (World.drewN _) (Nat.add_assoc _ _ _))⟩)) | (go_at_call 25; (with_reducible refine (octet_Fold.calls k (a1.extract 0 ((ji7) : Int).toNat) (a0.extract 0 ((ji4) : Int).toNat) t146 _ A23.out).mono ?_); rintro e w' ⟨rfl, ⟨nd, rfl⟩⟩; (try first | exact ⟨rfl, _, World.drewN_drewN _ _ _⟩ | exact ⟨rfl, _, Eq.trans (World.drewN_drewN _ _ _) (congrArg (World.drewN _) (Nat.add_assoc _ _ _))⟩)))
                        repeat (go_quiet (first | (go_at_call 23; (with_reducible refine (octet_Lower.calls t141 t143 _ A17.out).mono ?_); rintro e w25 ⟨rfl, hb⟩; have n0_ := Aside0.mk (below_step (by repeat (first | (with_reducible first | exact HB.out | apply below_alloc | apply pw_below_drewN | apply below_drew1) | exact HB.out)) hb); clear HB; have HB := n0_; clear n0_; (try clear hb); (try clear hb2); (try clear hk); (try clear hi)) | (go_at_call 25; (with_reducible refine (octet_Fold.calls k (a0.extract 0 ((ji4) : Int).toNat) t141 true _ A20.out).mono ?_); rintro e w' ⟨rfl, ⟨nd, rfl⟩⟩; (try first | exact ⟨rfl, _, World.drewN_drewN _ _ _⟩ | exact ⟨rfl, _, Eq.trans (World.drewN_drewN _ _ _) (congrArg (World.drewN _) (Nat.add_assoc _ _ _))⟩)) | (go_at_call 25; (with_reducible refine (octet_Fold.calls k (a0.extract 0 ((ji4) : Int).toNat) (a1.extract 0 ((ji7) : Int).toNat) t145 _ A22.out).mono ?_); rintro e w' ⟨rfl, ⟨nd, rfl⟩⟩; (try first | exact ⟨rfl, _, World.drewN_drewN _ _ _⟩ | exact ⟨rfl, _, Eq.trans (World.drewN_drewN _ _ _) (congrArg (World.drewN _) (Nat.add_assoc _ _ _))⟩)) | (go_at_call 25; (with_reducible refine (octet_Fold.calls k (a1.extract 0 ((ji7) : Int).toNat) (a0.extract 0 ((ji4) : Int).toNat) t146 _ A23.out).mono ?_); rintro e w' ⟨rfl, ⟨nd, rfl⟩⟩; (try first | exact ⟨rfl, _, World.drewN_drewN _ _ _⟩ | exact ⟨rfl, _, Eq.trans (World.drewN_drewN _ _ _) (congrArg (World.drewN _) (Nat.add_assoc _ _ _))⟩))); try go_wp2_with (first | (go_at_call 23; (with_reducible refine (octet_Lower.calls t141 t143 _ A17.out).mono ?_); rintro e w25 ⟨rfl, hb⟩; have n0_ := Aside0.mk (below_step (by repeat (first | (with_reducible first | exact HB.out | apply below_alloc | apply pw_below_drewN | apply below_drew1) | exact HB.out)) hb); clear HB; have HB := n0_; clear n0_; (try clear hb); (try clear hb2); (try clear hk); (try clear hi)) | (go_at_call 25; (with_reducible refine (octet_Fold.calls k (a0.extract 0 ((ji4) : Int).toNat) t141 true _ A20.out).mono ?_); rintro e w' ⟨rfl, ⟨nd, rfl⟩⟩; (try first | exact ⟨rfl, _, World.drewN_drewN _ _ _⟩ | exact ⟨rfl, _, Eq.trans (World.drewN_drewN _ _ _) (congrArg (World.drewN _) (Nat.add_assoc _ _ _))⟩)) | (go_at_call 25; (with_reducible refine (octet_Fold.calls k (a0.extract 0 ((ji4) : Int).toNat) (a1.extract 0 ((ji7) : Int).toNat) t145 _ A22.out).mono ?_); rintro e w' ⟨rfl, ⟨nd, rfl⟩⟩; (try first | exact ⟨rfl, _, World.drewN_drewN _ _ _⟩ | exact ⟨rfl, _, Eq.trans (World.drewN_drewN _ _ _) (congrArg (World.drewN _) (Nat.add_assoc _ _ _))⟩)) | (go_at_call 25; (with_reducible refine (octet_Fold.calls k (a1.extract 0 ((ji7) : Int).toNat) (a0.extract 0 ((ji4) : Int).toNat) t146 _ A23.out).mono ?_); rintro e w' ⟨rfl, ⟨nd, rfl⟩⟩; (try first | exact ⟨rfl, _, World.drewN_drewN _ _ _⟩ | exact ⟨rfl, _, Eq.trans (World.drewN_drewN _ _ _) (congrArg (World.drewN _) (Nat.add_assoc _ _ _))⟩))))
                        go_meet
                        case rel => exact ⟨_, (true), (by first | rfl | (simp; done) | (simp [*]; done)), H', ⟨by first | omega | exact Nat.le_refl _⟩, ⟨by repeat (first | (with_reducible first | exact HB.out | apply below_alloc | apply pw_below_drewN | apply below_drew1) | exact HB.out)⟩⟩
                      · rw [if_neg c24] at H
                        have c24b0 : (t145 != t146) = false := by simpa using c24
                        (try (have c24b1 : decide (t145 = t146) = true := by simpa using c24))
                        (try (have c24b2 : (t145 == t146) = true := by simpa using c24))
                        clear c24
                        replace H := Option.bind_eq_some_iff.mp H
                        obtain ⟨t147, A260, H⟩ := H
                        replace H : (if t147 = true then ((octet_Fold.f k (a1.extract 0 ((ji7) : Int).toNat) (a2.extract 0 ((ji10) : Int).toNat)).bind fun t148 => (if t148 = true then ((octet_Fold.f k (a0.extract 0 ((ji4) : Int).toNat) (a2.extract 0 ((ji10) : Int).toNat)).bind fun t149 => (abutmentlaw01_OctetKeeps.j0 k (a0.extract 0 ((ji4) : Int).toNat) t142 (!t149))) else (abutmentlaw01_OctetKeeps.j0 k (a0.extract 0 ((ji4) : Int).toNat) t142 false))) else (abutmentlaw01_OctetKeeps.j0 k (a0.extract 0 ((ji4) : Int).toNat) t142 false)) = some r := H
                        have A26 := Aside0.mk A260
                        clear A260
                        by_cases c27 : t147 = true
                        · subst c27
                          have e145 : t145 = true := Option.some.inj (A22.out.symm.trans A26.out)
                          have e146 : t146 = true := (bne_eq_false_iff_eq.mp c24b0).symm.trans e145
                          have H1 : ((octet_Fold.f k (a1.extract 0 ((ji7) : Int).toNat) (a2.extract 0 ((ji10) : Int).toNat)).bind fun t148 => (if t148 = true then ((octet_Fold.f k (a0.extract 0 ((ji4) : Int).toNat) (a2.extract 0 ((ji10) : Int).toNat)).bind fun t149 => (abutmentlaw01_OctetKeeps.j0 k (a0.extract 0 ((ji4) : Int).toNat) t142 (!t149))) else (abutmentlaw01_OctetKeeps.j0 k (a0.extract 0 ((ji4) : Int).toNat) t142 false))) = some r := by rw [if_pos rfl] at H; exact H
                          clear H
                          have H := H1
                          clear H1
                          replace H := Option.bind_eq_some_iff.mp H
                          obtain ⟨t148, A280, H⟩ := H
                          replace H : (if t148 = true then ((octet_Fold.f k (a0.extract 0 ((ji4) : Int).toNat) (a2.extract 0 ((ji10) : Int).toNat)).bind fun t149 => (abutmentlaw01_OctetKeeps.j0 k (a0.extract 0 ((ji4) : Int).toNat) t142 (!t149))) else (abutmentlaw01_OctetKeeps.j0 k (a0.extract 0 ((ji4) : Int).toNat) t142 false)) = some r := H
                          have A28 := Aside0.mk A280
                          clear A280
                          by_cases c29 : t148 = true
                          · subst c29
                            have H1 : ((octet_Fold.f k (a0.extract 0 ((ji4) : Int).toNat) (a2.extract 0 ((ji10) : Int).toNat)).bind fun t149 => (abutmentlaw01_OctetKeeps.j0 k (a0.extract 0 ((ji4) : Int).toNat) t142 (!t149))) = some r := by rw [if_pos rfl] at H; exact H
                            clear H
                            have H := H1
                            clear H1
                            replace H := Option.bind_eq_some_iff.mp H
                            obtain ⟨t149, A300, H⟩ := H
                            replace H : (abutmentlaw01_OctetKeeps.j0 k (a0.extract 0 ((ji4) : Int).toNat) t142 (!t149)) = some r := H
                            have A30 := Aside0.mk A300
                            clear A300
                            have H' := Aside0.mk H
                            clear H
                            go_wp2_with (first | (go_at_call 23; (with_reducible refine (octet_Lower.calls t141 t143 _ A17.out).mono ?_); rintro e w31 ⟨rfl, hb⟩; have n0_ := Aside0.mk (below_step (by repeat (first | (with_reducible first | exact HB.out | apply below_alloc | apply pw_below_drewN | apply below_drew1) | exact HB.out)) hb); clear HB; have HB := n0_; clear n0_; (try clear hb); (try clear hb2); (try clear hk); (try clear hi)) | (go_at_call 25; (with_reducible refine (octet_Fold.calls k (a0.extract 0 ((ji4) : Int).toNat) t141 true _ A20.out).mono ?_); rintro e w' ⟨rfl, ⟨nd, rfl⟩⟩; (try first | exact ⟨rfl, _, World.drewN_drewN _ _ _⟩ | exact ⟨rfl, _, Eq.trans (World.drewN_drewN _ _ _) (congrArg (World.drewN _) (Nat.add_assoc _ _ _))⟩)) | (go_at_call 25; (with_reducible refine (octet_Fold.calls k (a0.extract 0 ((ji4) : Int).toNat) (a1.extract 0 ((ji7) : Int).toNat) t145 _ A22.out).mono ?_); rintro e w' ⟨rfl, ⟨nd, rfl⟩⟩; (try first | exact ⟨rfl, _, World.drewN_drewN _ _ _⟩ | exact ⟨rfl, _, Eq.trans (World.drewN_drewN _ _ _) (congrArg (World.drewN _) (Nat.add_assoc _ _ _))⟩)) | (go_at_call 25; (with_reducible refine (octet_Fold.calls k (a1.extract 0 ((ji7) : Int).toNat) (a0.extract 0 ((ji4) : Int).toNat) t146 _ A23.out).mono ?_); rintro e w' ⟨rfl, ⟨nd, rfl⟩⟩; (try first | exact ⟨rfl, _, World.drewN_drewN _ _ _⟩ | exact ⟨rfl, _, Eq.trans (World.drewN_drewN _ _ _) (congrArg (World.drewN _) (Nat.add_assoc _ _ _))⟩)) | (go_at_call 25; (with_reducible refine (octet_Fold.calls k (a0.extract 0 ((ji4) : Int).toNat) (a1.extract 0 ((ji7) : Int).toNat) true _ A26.out).mono ?_); rintro e w' ⟨rfl, ⟨nd, rfl⟩⟩; (try first | exact ⟨rfl, _, World.drewN_drewN _ _ _⟩ | exact ⟨rfl, _, Eq.trans (World.drewN_drewN _ _ _) (congrArg (World.drewN _) (Nat.add_assoc _ _ _))⟩)) | (go_at_call 25; (with_reducible refine (octet_Fold.calls k (a1.extract 0 ((ji7) : Int).toNat) (a2.extract 0 ((ji10) : Int).toNat) true _ A28.out).mono ?_); rintro e w' ⟨rfl, ⟨nd, rfl⟩⟩; (try first | exact ⟨rfl, _, World.drewN_drewN _ _ _⟩ | exact ⟨rfl, _, Eq.trans (World.drewN_drewN _ _ _) (congrArg (World.drewN _) (Nat.add_assoc _ _ _))⟩)) | (go_at_call 25; (with_reducible refine (octet_Fold.calls k (a0.extract 0 ((ji4) : Int).toNat) (a2.extract 0 ((ji10) : Int).toNat) t149 _ A30.out).mono ?_); rintro e w' ⟨rfl, ⟨nd, rfl⟩⟩; (try first | exact ⟨rfl, _, World.drewN_drewN _ _ _⟩ | exact ⟨rfl, _, Eq.trans (World.drewN_drewN _ _ _) (congrArg (World.drewN _) (Nat.add_assoc _ _ _))⟩)))
                            repeat (go_quiet (first | (go_at_call 23; (with_reducible refine (octet_Lower.calls t141 t143 _ A17.out).mono ?_); rintro e w31 ⟨rfl, hb⟩; have n0_ := Aside0.mk (below_step (by repeat (first | (with_reducible first | exact HB.out | apply below_alloc | apply pw_below_drewN | apply below_drew1) | exact HB.out)) hb); clear HB; have HB := n0_; clear n0_; (try clear hb); (try clear hb2); (try clear hk); (try clear hi)) | (go_at_call 25; (with_reducible refine (octet_Fold.calls k (a0.extract 0 ((ji4) : Int).toNat) t141 true _ A20.out).mono ?_); rintro e w' ⟨rfl, ⟨nd, rfl⟩⟩; (try first | exact ⟨rfl, _, World.drewN_drewN _ _ _⟩ | exact ⟨rfl, _, Eq.trans (World.drewN_drewN _ _ _) (congrArg (World.drewN _) (Nat.add_assoc _ _ _))⟩)) | (go_at_call 25; (with_reducible refine (octet_Fold.calls k (a0.extract 0 ((ji4) : Int).toNat) (a1.extract 0 ((ji7) : Int).toNat) t145 _ A22.out).mono ?_); rintro e w' ⟨rfl, ⟨nd, rfl⟩⟩; (try first | exact ⟨rfl, _, World.drewN_drewN _ _ _⟩ | exact ⟨rfl, _, Eq.trans (World.drewN_drewN _ _ _) (congrArg (World.drewN _) (Nat.add_assoc _ _ _))⟩)) | (go_at_call 25; (with_reducible refine (octet_Fold.calls k (a1.extract 0 ((ji7) : Int).toNat) (a0.extract 0 ((ji4) : Int).toNat) t146 _ A23.out).mono ?_); rintro e w' ⟨rfl, ⟨nd, rfl⟩⟩; (try first | exact ⟨rfl, _, World.drewN_drewN _ _ _⟩ | exact ⟨rfl, _, Eq.trans (World.drewN_drewN _ _ _) (congrArg (World.drewN _) (Nat.add_assoc _ _ _))⟩)) | (go_at_call 25; (with_reducible refine (octet_Fold.calls k (a0.extract 0 ((ji4) : Int).toNat) (a1.extract 0 ((ji7) : Int).toNat) true _ A26.out).mono ?_); rintro e w' ⟨rfl, ⟨nd, rfl⟩⟩; (try first | exact ⟨rfl, _, World.drewN_drewN _ _ _⟩ | exact ⟨rfl, _, Eq.trans (World.drewN_drewN _ _ _) (congrArg (World.drewN _) (Nat.add_assoc _ _ _))⟩)) | (go_at_call 25; (with_reducible refine (octet_Fold.calls k (a1.extract 0 ((ji7) : Int).toNat) (a2.extract 0 ((ji10) : Int).toNat) true _ A28.out).mono ?_); rintro e w' ⟨rfl, ⟨nd, rfl⟩⟩; (try first | exact ⟨rfl, _, World.drewN_drewN _ _ _⟩ | exact ⟨rfl, _, Eq.trans (World.drewN_drewN _ _ _) (congrArg (World.drewN _) (Nat.add_assoc _ _ _))⟩)) | (go_at_call 25; (with_reducible refine (octet_Fold.calls k (a0.extract 0 ((ji4) : Int).toNat) (a2.extract 0 ((ji10) : Int).toNat) t149 _ A30.out).mono ?_); rintro e w' ⟨rfl, ⟨nd, rfl⟩⟩; (try first | exact ⟨rfl, _, World.drewN_drewN _ _ _⟩ | exact ⟨rfl, _, Eq.trans (World.drewN_drewN _ _ _) (congrArg (World.drewN _) (Nat.add_assoc _ _ _))⟩))); try go_wp2_with (first | (go_at_call 23; (with_reducible refine (octet_Lower.calls t141 t143 _ A17.out).mono ?_); rintro e w31 ⟨rfl, hb⟩; have n0_ := Aside0.mk (below_step (by repeat (first | (with_reducible first | exact HB.out | apply below_alloc | apply pw_below_drewN | apply below_drew1) | exact HB.out)) hb); clear HB; have HB := n0_; clear n0_; (try clear hb); (try clear hb2); (try clear hk); (try clear hi)) | (go_at_call 25; (with_reducible refine (octet_Fold.calls k (a0.extract 0 ((ji4) : Int).toNat) t141 true _ A20.out).mono ?_); rintro e w' ⟨rfl, ⟨nd, rfl⟩⟩; (try first | exact ⟨rfl, _, World.drewN_drewN _ _ _⟩ | exact ⟨rfl, _, Eq.trans (World.drewN_drewN _ _ _) (congrArg (World.drewN _) (Nat.add_assoc _ _ _))⟩)) | (go_at_call 25; (with_reducible refine (octet_Fold.calls k (a0.extract 0 ((ji4) : Int).toNat) (a1.extract 0 ((ji7) : Int).toNat) t145 _ A22.out).mono ?_); rintro e w' ⟨rfl, ⟨nd, rfl⟩⟩; (try first | exact ⟨rfl, _, World.drewN_drewN _ _ _⟩ | exact ⟨rfl, _, Eq.trans (World.drewN_drewN _ _ _) (congrArg (World.drewN _) (Nat.add_assoc _ _ _))⟩)) | (go_at_call 25; (with_reducible refine (octet_Fold.calls k (a1.extract 0 ((ji7) : Int).toNat) (a0.extract 0 ((ji4) : Int).toNat) t146 _ A23.out).mono ?_); rintro e w' ⟨rfl, ⟨nd, rfl⟩⟩; (try first | exact ⟨rfl, _, World.drewN_drewN _ _ _⟩ | exact ⟨rfl, _, Eq.trans (World.drewN_drewN _ _ _) (congrArg (World.drewN _) (Nat.add_assoc _ _ _))⟩)) | (go_at_call 25; (with_reducible refine (octet_Fold.calls k (a0.extract 0 ((ji4) : Int).toNat) (a1.extract 0 ((ji7) : Int).toNat) true _ A26.out).mono ?_); rintro e w' ⟨rfl, ⟨nd, rfl⟩⟩; (try first | exact ⟨rfl, _, World.drewN_drewN _ _ _⟩ | exact ⟨rfl, _, Eq.trans (World.drewN_drewN _ _ _) (congrArg (World.drewN _) (Nat.add_assoc _ _ _))⟩)) | (go_at_call 25; (with_reducible refine (octet_Fold.calls k (a1.extract 0 ((ji7) : Int).toNat) (a2.extract 0 ((ji10) : Int).toNat) true _ A28.out).mono ?_); rintro e w' ⟨rfl, ⟨nd, rfl⟩⟩; (try first | exact ⟨rfl, _, World.drewN_drewN _ _ _⟩ | exact ⟨rfl, _, Eq.trans (World.drewN_drewN _ _ _) (congrArg (World.drewN _) (Nat.add_assoc _ _ _))⟩)) | (go_at_call 25; (with_reducible refine (octet_Fold.calls k (a0.extract 0 ((ji4) : Int).toNat) (a2.extract 0 ((ji10) : Int).toNat) t149 _ A30.out).mono ?_); rintro e w' ⟨rfl, ⟨nd, rfl⟩⟩; (try first | exact ⟨rfl, _, World.drewN_drewN _ _ _⟩ | exact ⟨rfl, _, Eq.trans (World.drewN_drewN _ _ _) (congrArg (World.drewN _) (Nat.add_assoc _ _ _))⟩))))
                            go_meet
                            case rel => exact ⟨_, (!t149), (by first | rfl | (simp; done) | (simp [*]; done)), H', ⟨by first | omega | exact Nat.le_refl _⟩, ⟨by repeat (first | (with_reducible first | exact HB.out | apply below_alloc | apply pw_below_drewN | apply below_drew1) | exact HB.out)⟩⟩
                          · replace c29 := Bool.eq_false_iff.mpr c29
                            subst c29
                            have H1 : (abutmentlaw01_OctetKeeps.j0 k (a0.extract 0 ((ji4) : Int).toNat) t142 false) = some r := by rw [if_neg (show ¬ (false = true) by decide)] at H; exact H
                            clear H
                            have H := H1
                            clear H1
                            have H' := Aside0.mk H
                            clear H
                            go_wp2_with (first | (go_at_call 23; (with_reducible refine (octet_Lower.calls t141 t143 _ A17.out).mono ?_); rintro e w32 ⟨rfl, hb⟩; have n0_ := Aside0.mk (below_step (by repeat (first | (with_reducible first | exact HB.out | apply below_alloc | apply pw_below_drewN | apply below_drew1) | exact HB.out)) hb); clear HB; have HB := n0_; clear n0_; (try clear hb); (try clear hb2); (try clear hk); (try clear hi)) | (go_at_call 25; (with_reducible refine (octet_Fold.calls k (a0.extract 0 ((ji4) : Int).toNat) t141 true _ A20.out).mono ?_); rintro e w' ⟨rfl, ⟨nd, rfl⟩⟩; (try first | exact ⟨rfl, _, World.drewN_drewN _ _ _⟩ | exact ⟨rfl, _, Eq.trans (World.drewN_drewN _ _ _) (congrArg (World.drewN _) (Nat.add_assoc _ _ _))⟩)) | (go_at_call 25; (with_reducible refine (octet_Fold.calls k (a0.extract 0 ((ji4) : Int).toNat) (a1.extract 0 ((ji7) : Int).toNat) t145 _ A22.out).mono ?_); rintro e w' ⟨rfl, ⟨nd, rfl⟩⟩; (try first | exact ⟨rfl, _, World.drewN_drewN _ _ _⟩ | exact ⟨rfl, _, Eq.trans (World.drewN_drewN _ _ _) (congrArg (World.drewN _) (Nat.add_assoc _ _ _))⟩)) | (go_at_call 25; (with_reducible refine (octet_Fold.calls k (a1.extract 0 ((ji7) : Int).toNat) (a0.extract 0 ((ji4) : Int).toNat) t146 _ A23.out).mono ?_); rintro e w' ⟨rfl, ⟨nd, rfl⟩⟩; (try first | exact ⟨rfl, _, World.drewN_drewN _ _ _⟩ | exact ⟨rfl, _, Eq.trans (World.drewN_drewN _ _ _) (congrArg (World.drewN _) (Nat.add_assoc _ _ _))⟩)) | (go_at_call 25; (with_reducible refine (octet_Fold.calls k (a0.extract 0 ((ji4) : Int).toNat) (a1.extract 0 ((ji7) : Int).toNat) true _ A26.out).mono ?_); rintro e w' ⟨rfl, ⟨nd, rfl⟩⟩; (try first | exact ⟨rfl, _, World.drewN_drewN _ _ _⟩ | exact ⟨rfl, _, Eq.trans (World.drewN_drewN _ _ _) (congrArg (World.drewN _) (Nat.add_assoc _ _ _))⟩)) | (go_at_call 25; (with_reducible refine (octet_Fold.calls k (a1.extract 0 ((ji7) : Int).toNat) (a2.extract 0 ((ji10) : Int).toNat) false _ A28.out).mono ?_); rintro e w' ⟨rfl, ⟨nd, rfl⟩⟩; (try first | exact ⟨rfl, _, World.drewN_drewN _ _ _⟩ | exact ⟨rfl, _, Eq.trans (World.drewN_drewN _ _ _) (congrArg (World.drewN _) (Nat.add_assoc _ _ _))⟩)))
                            repeat (go_quiet (first | (go_at_call 23; (with_reducible refine (octet_Lower.calls t141 t143 _ A17.out).mono ?_); rintro e w32 ⟨rfl, hb⟩; have n0_ := Aside0.mk (below_step (by repeat (first | (with_reducible first | exact HB.out | apply below_alloc | apply pw_below_drewN | apply below_drew1) | exact HB.out)) hb); clear HB; have HB := n0_; clear n0_; (try clear hb); (try clear hb2); (try clear hk); (try clear hi)) | (go_at_call 25; (with_reducible refine (octet_Fold.calls k (a0.extract 0 ((ji4) : Int).toNat) t141 true _ A20.out).mono ?_); rintro e w' ⟨rfl, ⟨nd, rfl⟩⟩; (try first | exact ⟨rfl, _, World.drewN_drewN _ _ _⟩ | exact ⟨rfl, _, Eq.trans (World.drewN_drewN _ _ _) (congrArg (World.drewN _) (Nat.add_assoc _ _ _))⟩)) | (go_at_call 25; (with_reducible refine (octet_Fold.calls k (a0.extract 0 ((ji4) : Int).toNat) (a1.extract 0 ((ji7) : Int).toNat) t145 _ A22.out).mono ?_); rintro e w' ⟨rfl, ⟨nd, rfl⟩⟩; (try first | exact ⟨rfl, _, World.drewN_drewN _ _ _⟩ | exact ⟨rfl, _, Eq.trans (World.drewN_drewN _ _ _) (congrArg (World.drewN _) (Nat.add_assoc _ _ _))⟩)) | (go_at_call 25; (with_reducible refine (octet_Fold.calls k (a1.extract 0 ((ji7) : Int).toNat) (a0.extract 0 ((ji4) : Int).toNat) t146 _ A23.out).mono ?_); rintro e w' ⟨rfl, ⟨nd, rfl⟩⟩; (try first | exact ⟨rfl, _, World.drewN_drewN _ _ _⟩ | exact ⟨rfl, _, Eq.trans (World.drewN_drewN _ _ _) (congrArg (World.drewN _) (Nat.add_assoc _ _ _))⟩)) | (go_at_call 25; (with_reducible refine (octet_Fold.calls k (a0.extract 0 ((ji4) : Int).toNat) (a1.extract 0 ((ji7) : Int).toNat) true _ A26.out).mono ?_); rintro e w' ⟨rfl, ⟨nd, rfl⟩⟩; (try first | exact ⟨rfl, _, World.drewN_drewN _ _ _⟩ | exact ⟨rfl, _, Eq.trans (World.drewN_drewN _ _ _) (congrArg (World.drewN _) (Nat.add_assoc _ _ _))⟩)) | (go_at_call 25; (with_reducible refine (octet_Fold.calls k (a1.extract 0 ((ji7) : Int).toNat) (a2.extract 0 ((ji10) : Int).toNat) false _ A28.out).mono ?_); rintro e w' ⟨rfl, ⟨nd, rfl⟩⟩; (try first | exact ⟨rfl, _, World.drewN_drewN _ _ _⟩ | exact ⟨rfl, _, Eq.trans (World.drewN_drewN _ _ _) (congrArg (World.drewN _) (Nat.add_assoc _ _ _))⟩))); try go_wp2_with (first | (go_at_call 23; (with_reducible refine (octet_Lower.calls t141 t143 _ A17.out).mono ?_); rintro e w32 ⟨rfl, hb⟩; have n0_ := Aside0.mk (below_step (by repeat (first | (with_reducible first | exact HB.out | apply below_alloc | apply pw_below_drewN | apply below_drew1) | exact HB.out)) hb); clear HB; have HB := n0_; clear n0_; (try clear hb); (try clear hb2); (try clear hk); (try clear hi)) | (go_at_call 25; (with_reducible refine (octet_Fold.calls k (a0.extract 0 ((ji4) : Int).toNat) t141 true _ A20.out).mono ?_); rintro e w' ⟨rfl, ⟨nd, rfl⟩⟩; (try first | exact ⟨rfl, _, World.drewN_drewN _ _ _⟩ | exact ⟨rfl, _, Eq.trans (World.drewN_drewN _ _ _) (congrArg (World.drewN _) (Nat.add_assoc _ _ _))⟩)) | (go_at_call 25; (with_reducible refine (octet_Fold.calls k (a0.extract 0 ((ji4) : Int).toNat) (a1.extract 0 ((ji7) : Int).toNat) t145 _ A22.out).mono ?_); rintro e w' ⟨rfl, ⟨nd, rfl⟩⟩; (try first | exact ⟨rfl, _, World.drewN_drewN _ _ _⟩ | exact ⟨rfl, _, Eq.trans (World.drewN_drewN _ _ _) (congrArg (World.drewN _) (Nat.add_assoc _ _ _))⟩)) | (go_at_call 25; (with_reducible refine (octet_Fold.calls k (a1.extract 0 ((ji7) : Int).toNat) (a0.extract 0 ((ji4) : Int).toNat) t146 _ A23.out).mono ?_); rintro e w' ⟨rfl, ⟨nd, rfl⟩⟩; (try first | exact ⟨rfl, _, World.drewN_drewN _ _ _⟩ | exact ⟨rfl, _, Eq.trans (World.drewN_drewN _ _ _) (congrArg (World.drewN _) (Nat.add_assoc _ _ _))⟩)) | (go_at_call 25; (with_reducible refine (octet_Fold.calls k (a0.extract 0 ((ji4) : Int).toNat) (a1.extract 0 ((ji7) : Int).toNat) true _ A26.out).mono ?_); rintro e w' ⟨rfl, ⟨nd, rfl⟩⟩; (try first | exact ⟨rfl, _, World.drewN_drewN _ _ _⟩ | exact ⟨rfl, _, Eq.trans (World.drewN_drewN _ _ _) (congrArg (World.drewN _) (Nat.add_assoc _ _ _))⟩)) | (go_at_call 25; (with_reducible refine (octet_Fold.calls k (a1.extract 0 ((ji7) : Int).toNat) (a2.extract 0 ((ji10) : Int).toNat) false _ A28.out).mono ?_); rintro e w' ⟨rfl, ⟨nd, rfl⟩⟩; (try first | exact ⟨rfl, _, World.drewN_drewN _ _ _⟩ | exact ⟨rfl, _, Eq.trans (World.drewN_drewN _ _ _) (congrArg (World.drewN _) (Nat.add_assoc _ _ _))⟩))))
                            go_meet
                            case rel => exact ⟨_, (false), (by first | rfl | (simp; done) | (simp [*]; done)), H', ⟨by first | omega | exact Nat.le_refl _⟩, ⟨by repeat (first | (with_reducible first | exact HB.out | apply below_alloc | apply pw_below_drewN | apply below_drew1) | exact HB.out)⟩⟩
                        · replace c27 := Bool.eq_false_iff.mpr c27
                          subst c27
                          have e145 : t145 = false := Option.some.inj (A22.out.symm.trans A26.out)
                          have e146 : t146 = false := (bne_eq_false_iff_eq.mp c24b0).symm.trans e145
                          have H1 : (abutmentlaw01_OctetKeeps.j0 k (a0.extract 0 ((ji4) : Int).toNat) t142 false) = some r := by rw [if_neg (show ¬ (false = true) by decide)] at H; exact H
                          clear H
                          have H := H1
                          clear H1
                          have H' := Aside0.mk H
                          clear H
                          go_wp2_with (first | (go_at_call 23; (with_reducible refine (octet_Lower.calls t141 t143 _ A17.out).mono ?_); rintro e w33 ⟨rfl, hb⟩; have n0_ := Aside0.mk (below_step (by repeat (first | (with_reducible first | exact HB.out | apply below_alloc | apply pw_below_drewN | apply below_drew1) | exact HB.out)) hb); clear HB; have HB := n0_; clear n0_; (try clear hb); (try clear hb2); (try clear hk); (try clear hi)) | (go_at_call 25; (with_reducible refine (octet_Fold.calls k (a0.extract 0 ((ji4) : Int).toNat) t141 true _ A20.out).mono ?_); rintro e w' ⟨rfl, ⟨nd, rfl⟩⟩; (try first | exact ⟨rfl, _, World.drewN_drewN _ _ _⟩ | exact ⟨rfl, _, Eq.trans (World.drewN_drewN _ _ _) (congrArg (World.drewN _) (Nat.add_assoc _ _ _))⟩)) | (go_at_call 25; (with_reducible refine (octet_Fold.calls k (a0.extract 0 ((ji4) : Int).toNat) (a1.extract 0 ((ji7) : Int).toNat) t145 _ A22.out).mono ?_); rintro e w' ⟨rfl, ⟨nd, rfl⟩⟩; (try first | exact ⟨rfl, _, World.drewN_drewN _ _ _⟩ | exact ⟨rfl, _, Eq.trans (World.drewN_drewN _ _ _) (congrArg (World.drewN _) (Nat.add_assoc _ _ _))⟩)) | (go_at_call 25; (with_reducible refine (octet_Fold.calls k (a1.extract 0 ((ji7) : Int).toNat) (a0.extract 0 ((ji4) : Int).toNat) t146 _ A23.out).mono ?_); rintro e w' ⟨rfl, ⟨nd, rfl⟩⟩; (try first | exact ⟨rfl, _, World.drewN_drewN _ _ _⟩ | exact ⟨rfl, _, Eq.trans (World.drewN_drewN _ _ _) (congrArg (World.drewN _) (Nat.add_assoc _ _ _))⟩)) | (go_at_call 25; (with_reducible refine (octet_Fold.calls k (a0.extract 0 ((ji4) : Int).toNat) (a1.extract 0 ((ji7) : Int).toNat) false _ A26.out).mono ?_); rintro e w' ⟨rfl, ⟨nd, rfl⟩⟩; (try first | exact ⟨rfl, _, World.drewN_drewN _ _ _⟩ | exact ⟨rfl, _, Eq.trans (World.drewN_drewN _ _ _) (congrArg (World.drewN _) (Nat.add_assoc _ _ _))⟩)))
                          repeat (go_quiet (first | (go_at_call 23; (with_reducible refine (octet_Lower.calls t141 t143 _ A17.out).mono ?_); rintro e w33 ⟨rfl, hb⟩; have n0_ := Aside0.mk (below_step (by repeat (first | (with_reducible first | exact HB.out | apply below_alloc | apply pw_below_drewN | apply below_drew1) | exact HB.out)) hb); clear HB; have HB := n0_; clear n0_; (try clear hb); (try clear hb2); (try clear hk); (try clear hi)) | (go_at_call 25; (with_reducible refine (octet_Fold.calls k (a0.extract 0 ((ji4) : Int).toNat) t141 true _ A20.out).mono ?_); rintro e w' ⟨rfl, ⟨nd, rfl⟩⟩; (try first | exact ⟨rfl, _, World.drewN_drewN _ _ _⟩ | exact ⟨rfl, _, Eq.trans (World.drewN_drewN _ _ _) (congrArg (World.drewN _) (Nat.add_assoc _ _ _))⟩)) | (go_at_call 25; (with_reducible refine (octet_Fold.calls k (a0.extract 0 ((ji4) : Int).toNat) (a1.extract 0 ((ji7) : Int).toNat) t145 _ A22.out).mono ?_); rintro e w' ⟨rfl, ⟨nd, rfl⟩⟩; (try first | exact ⟨rfl, _, World.drewN_drewN _ _ _⟩ | exact ⟨rfl, _, Eq.trans (World.drewN_drewN _ _ _) (congrArg (World.drewN _) (Nat.add_assoc _ _ _))⟩)) | (go_at_call 25; (with_reducible refine (octet_Fold.calls k (a1.extract 0 ((ji7) : Int).toNat) (a0.extract 0 ((ji4) : Int).toNat) t146 _ A23.out).mono ?_); rintro e w' ⟨rfl, ⟨nd, rfl⟩⟩; (try first | exact ⟨rfl, _, World.drewN_drewN _ _ _⟩ | exact ⟨rfl, _, Eq.trans (World.drewN_drewN _ _ _) (congrArg (World.drewN _) (Nat.add_assoc _ _ _))⟩)) | (go_at_call 25; (with_reducible refine (octet_Fold.calls k (a0.extract 0 ((ji4) : Int).toNat) (a1.extract 0 ((ji7) : Int).toNat) false _ A26.out).mono ?_); rintro e w' ⟨rfl, ⟨nd, rfl⟩⟩; (try first | exact ⟨rfl, _, World.drewN_drewN _ _ _⟩ | exact ⟨rfl, _, Eq.trans (World.drewN_drewN _ _ _) (congrArg (World.drewN _) (Nat.add_assoc _ _ _))⟩))); try go_wp2_with (first | (go_at_call 23; (with_reducible refine (octet_Lower.calls t141 t143 _ A17.out).mono ?_); rintro e w33 ⟨rfl, hb⟩; have n0_ := Aside0.mk (below_step (by repeat (first | (with_reducible first | exact HB.out | apply below_alloc | apply pw_below_drewN | apply below_drew1) | exact HB.out)) hb); clear HB; have HB := n0_; clear n0_; (try clear hb); (try clear hb2); (try clear hk); (try clear hi)) | (go_at_call 25; (with_reducible refine (octet_Fold.calls k (a0.extract 0 ((ji4) : Int).toNat) t141 true _ A20.out).mono ?_); rintro e w' ⟨rfl, ⟨nd, rfl⟩⟩; (try first | exact ⟨rfl, _, World.drewN_drewN _ _ _⟩ | exact ⟨rfl, _, Eq.trans (World.drewN_drewN _ _ _) (congrArg (World.drewN _) (Nat.add_assoc _ _ _))⟩)) | (go_at_call 25; (with_reducible refine (octet_Fold.calls k (a0.extract 0 ((ji4) : Int).toNat) (a1.extract 0 ((ji7) : Int).toNat) t145 _ A22.out).mono ?_); rintro e w' ⟨rfl, ⟨nd, rfl⟩⟩; (try first | exact ⟨rfl, _, World.drewN_drewN _ _ _⟩ | exact ⟨rfl, _, Eq.trans (World.drewN_drewN _ _ _) (congrArg (World.drewN _) (Nat.add_assoc _ _ _))⟩)) | (go_at_call 25; (with_reducible refine (octet_Fold.calls k (a1.extract 0 ((ji7) : Int).toNat) (a0.extract 0 ((ji4) : Int).toNat) t146 _ A23.out).mono ?_); rintro e w' ⟨rfl, ⟨nd, rfl⟩⟩; (try first | exact ⟨rfl, _, World.drewN_drewN _ _ _⟩ | exact ⟨rfl, _, Eq.trans (World.drewN_drewN _ _ _) (congrArg (World.drewN _) (Nat.add_assoc _ _ _))⟩)) | (go_at_call 25; (with_reducible refine (octet_Fold.calls k (a0.extract 0 ((ji4) : Int).toNat) (a1.extract 0 ((ji7) : Int).toNat) false _ A26.out).mono ?_); rintro e w' ⟨rfl, ⟨nd, rfl⟩⟩; (try first | exact ⟨rfl, _, World.drewN_drewN _ _ _⟩ | exact ⟨rfl, _, Eq.trans (World.drewN_drewN _ _ _) (congrArg (World.drewN _) (Nat.add_assoc _ _ _))⟩))))
                          go_meet
                          case rel => exact ⟨_, (false), (by first | rfl | (simp; done) | (simp [*]; done)), H', ⟨by first | omega | exact Nat.le_refl _⟩, ⟨by repeat (first | (with_reducible first | exact HB.out | apply below_alloc | apply pw_below_drewN | apply below_drew1) | exact HB.out)⟩⟩
                    · replace c21 := Bool.eq_false_iff.mpr c21
                      subst c21
                      have H1 : (abutmentlaw01_OctetKeeps.j0 k (a0.extract 0 ((ji4) : Int).toNat) t142 true) = some r := by rw [if_neg (show ¬ (false = true) by decide)] at H; exact H
                      clear H
                      have H := H1
                      clear H1
                      have H' := Aside0.mk H
                      clear H
                      go_wp2_with (first | (go_at_call 23; (with_reducible refine (octet_Lower.calls t141 t143 _ A17.out).mono ?_); rintro e w34 ⟨rfl, hb⟩; have n0_ := Aside0.mk (below_step (by repeat (first | (with_reducible first | exact HB.out | apply below_alloc | apply pw_below_drewN | apply below_drew1) | exact HB.out)) hb); clear HB; have HB := n0_; clear n0_; (try clear hb); (try clear hb2); (try clear hk); (try clear hi)) | (go_at_call 25; (with_reducible refine (octet_Fold.calls k (a0.extract 0 ((ji4) : Int).toNat) t141 false _ A20.out).mono ?_); rintro e w' ⟨rfl, ⟨nd, rfl⟩⟩; (try first | exact ⟨rfl, _, World.drewN_drewN _ _ _⟩ | exact ⟨rfl, _, Eq.trans (World.drewN_drewN _ _ _) (congrArg (World.drewN _) (Nat.add_assoc _ _ _))⟩)))
                      repeat (go_quiet (first | (go_at_call 23; (with_reducible refine (octet_Lower.calls t141 t143 _ A17.out).mono ?_); rintro e w34 ⟨rfl, hb⟩; have n0_ := Aside0.mk (below_step (by repeat (first | (with_reducible first | exact HB.out | apply below_alloc | apply pw_below_drewN | apply below_drew1) | exact HB.out)) hb); clear HB; have HB := n0_; clear n0_; (try clear hb); (try clear hb2); (try clear hk); (try clear hi)) | (go_at_call 25; (with_reducible refine (octet_Fold.calls k (a0.extract 0 ((ji4) : Int).toNat) t141 false _ A20.out).mono ?_); rintro e w' ⟨rfl, ⟨nd, rfl⟩⟩; (try first | exact ⟨rfl, _, World.drewN_drewN _ _ _⟩ | exact ⟨rfl, _, Eq.trans (World.drewN_drewN _ _ _) (congrArg (World.drewN _) (Nat.add_assoc _ _ _))⟩))); try go_wp2_with (first | (go_at_call 23; (with_reducible refine (octet_Lower.calls t141 t143 _ A17.out).mono ?_); rintro e w34 ⟨rfl, hb⟩; have n0_ := Aside0.mk (below_step (by repeat (first | (with_reducible first | exact HB.out | apply below_alloc | apply pw_below_drewN | apply below_drew1) | exact HB.out)) hb); clear HB; have HB := n0_; clear n0_; (try clear hb); (try clear hb2); (try clear hk); (try clear hi)) | (go_at_call 25; (with_reducible refine (octet_Fold.calls k (a0.extract 0 ((ji4) : Int).toNat) t141 false _ A20.out).mono ?_); rintro e w' ⟨rfl, ⟨nd, rfl⟩⟩; (try first | exact ⟨rfl, _, World.drewN_drewN _ _ _⟩ | exact ⟨rfl, _, Eq.trans (World.drewN_drewN _ _ _) (congrArg (World.drewN _) (Nat.add_assoc _ _ _))⟩))))
                      go_meet
                      case rel => exact ⟨_, (true), (by first | rfl | (simp; done) | (simp [*]; done)), H', ⟨by first | omega | exact Nat.le_refl _⟩, ⟨by repeat (first | (with_reducible first | exact HB.out | apply below_alloc | apply pw_below_drewN | apply below_drew1) | exact HB.out)⟩⟩
                  · rw [if_neg c19] at H
                    have c19b0 : ((t141.size : Int) == ((a0.extract 0 ((ji4) : Int).toNat).size : Int)) = false := beq_eq_false_iff_ne.mpr c19
                    have c19s : ((a0.extract 0 ((ji4) : Int).toNat).size : Int) = max ji4 0 := by rw [ByteArray.size_extract]; omega
                    have c19e : ((t141.size : Int) == max ji4 0) = false := by rw [← c19s]; exact c19b0
                    have c19e1 : ((t141.size : Int) != max ji4 0) = !false := by rw [bne, c19e]
                    simp only [Bool.not_true, Bool.not_false] at c19e1
                    clear c19s
                    have c19b1 : ((t141.size : Int) != ((a0.extract 0 ((ji4) : Int).toNat).size : Int)) = true := bne_iff_ne.mpr c19
                    have c19b2 : (t141.size == (a0.extract 0 ((ji4) : Int).toNat).size) = false := by first | simpa using c19 | (simp at c19 ⊢; omega)
                    have H' := Aside0.mk H
                    clear H
                    go_wp2_with (first | (go_at_call 23; (with_reducible refine (octet_Lower.calls t141 t143 _ A17.out).mono ?_); rintro e w35 ⟨rfl, hb⟩; have n0_ := Aside0.mk (below_step (by repeat (first | (with_reducible first | exact HB.out | apply below_alloc | apply pw_below_drewN | apply below_drew1) | exact HB.out)) hb); clear HB; have HB := n0_; clear n0_; (try clear hb); (try clear hb2); (try clear hk); (try clear hi)))
                    repeat (go_quiet (first | (go_at_call 23; (with_reducible refine (octet_Lower.calls t141 t143 _ A17.out).mono ?_); rintro e w35 ⟨rfl, hb⟩; have n0_ := Aside0.mk (below_step (by repeat (first | (with_reducible first | exact HB.out | apply below_alloc | apply pw_below_drewN | apply below_drew1) | exact HB.out)) hb); clear HB; have HB := n0_; clear n0_; (try clear hb); (try clear hb2); (try clear hk); (try clear hi))); try go_wp2_with (first | (go_at_call 23; (with_reducible refine (octet_Lower.calls t141 t143 _ A17.out).mono ?_); rintro e w35 ⟨rfl, hb⟩; have n0_ := Aside0.mk (below_step (by repeat (first | (with_reducible first | exact HB.out | apply below_alloc | apply pw_below_drewN | apply below_drew1) | exact HB.out)) hb); clear HB; have HB := n0_; clear n0_; (try clear hb); (try clear hb2); (try clear hk); (try clear hi))))
                    go_meet
                    case rel => exact ⟨_, (true), (by first | rfl | (simp; done) | (simp [*]; done)), H', ⟨by first | omega | exact Nat.le_refl _⟩, ⟨by repeat (first | (with_reducible first | exact HB.out | apply below_alloc | apply pw_below_drewN | apply below_drew1) | exact HB.out)⟩⟩
                · rw [if_neg c18] at H
                  have c18b0 : (t143.toList == t141.toList) = false := beq_eq_false_iff_ne.mpr c18
                  have c18b1 : (t143.toList != t141.toList) = true := bne_iff_ne.mpr c18
                  (first | rw [c18b0] | (simp only [i64_w, i32_w]; rw [c18b0]) | skip)
                  have H' := Aside0.mk H
                  clear H
                  go_wp2_with (first | (go_at_call 23; (with_reducible refine (octet_Lower.calls t141 t143 _ A17.out).mono ?_); rintro e w36 ⟨rfl, hb⟩; have n0_ := Aside0.mk (below_step (by repeat (first | (with_reducible first | exact HB.out | apply below_alloc | apply pw_below_drewN | apply below_drew1) | exact HB.out)) hb); clear HB; have HB := n0_; clear n0_; (try clear hb); (try clear hb2); (try clear hk); (try clear hi)))
                  repeat (go_quiet (first | (go_at_call 23; (with_reducible refine (octet_Lower.calls t141 t143 _ A17.out).mono ?_); rintro e w36 ⟨rfl, hb⟩; have n0_ := Aside0.mk (below_step (by repeat (first | (with_reducible first | exact HB.out | apply below_alloc | apply pw_below_drewN | apply below_drew1) | exact HB.out)) hb); clear HB; have HB := n0_; clear n0_; (try clear hb); (try clear hb2); (try clear hk); (try clear hi))); try go_wp2_with (first | (go_at_call 23; (with_reducible refine (octet_Lower.calls t141 t143 _ A17.out).mono ?_); rintro e w36 ⟨rfl, hb⟩; have n0_ := Aside0.mk (below_step (by repeat (first | (with_reducible first | exact HB.out | apply below_alloc | apply pw_below_drewN | apply below_drew1) | exact HB.out)) hb); clear HB; have HB := n0_; clear n0_; (try clear hb); (try clear hb2); (try clear hk); (try clear hi))))
                  go_meet
                  case rel => exact ⟨_, (true), (by first | rfl | (simp; done) | (simp [*]; done)), H', ⟨by first | omega | exact Nat.le_refl _⟩, ⟨by repeat (first | (with_reducible first | exact HB.out | apply below_alloc | apply pw_below_drewN | apply below_drew1) | exact HB.out)⟩⟩
              case rest =>
                clear HC15
                try clear c1
                try clear c2
                try clear p2
                try clear c5
                try clear c5b0
                try clear c5b1
                try clear c6
                try clear c6b0
                try clear c6b1
                try clear c8
                try clear c8b0
                try clear c8b1
                try clear c9
                try clear c9b0
                try clear c9b1
                try clear c11
                try clear c11b0
                try clear c11b1
                try clear c12
                try clear c12b0
                try clear c12b1
                try clear c18
                try clear c18b0
                try clear c18b1
                try clear c19
                try clear c19b0
                try clear c19b1
                try clear c19b2
                try clear c21
                try clear c24
                try clear c24b0
                try clear c24b1
                try clear c24b2
                try clear c27
                try clear c29
                obtain ⟨kq, x70_14, rfl, HA, HJ14, HB⟩ := hcut
                cases kq with
                | zero => exact absurd HA.out (by simp [abutmentlaw01_OctetKeeps.j0])
                | succ kj14 =>
                  have H := HA.out
                  clear HA
                  simp only [abutmentlaw01_OctetKeeps.j0] at H
                  by_cases c37 : x70_14 = true
                  · subst c37
                    have H1 : (some false) = some r := by rw [if_pos rfl] at H; exact H
                    clear H
                    have H := H1
                    clear H1
                    obtain rfl := Option.some.inj H
                    go_wp2
                    repeat (go_quiet (fail); try go_wp2)
                    go_ret
                    exact ⟨by first | rfl | (simp [errW_none, errW_some] <;> rfl) | (simp only [← hji4, ← hji7, ← hji10]; first | rfl | (simp [errW_none, errW_some] <;> rfl)) | (simp [*, errW_none, errW_some] <;> rfl), by repeat (first | (with_reducible first | exact HB.out | apply below_alloc | apply pw_below_drewN | apply below_drew1) | exact HB.out)⟩
                  · replace c37 := Bool.eq_false_iff.mpr c37
                    subst c37
                    have H1 : ((octet_Trim.f kj14 t142).bind fun t150 => (if t150.toList = t142.toList then (if 2 + (a0.extract 0 ((ji4) : Int).toNat).size ≤ 9223372036854775807 then (if ((⟨#[32, 9]⟩ : ByteArray) ++ (a0.extract 0 ((ji4) : Int).toNat)).size + 2 ≤ 9223372036854775807 then ((octet_Trim.f kj14 (((⟨#[32, 9]⟩ : ByteArray) ++ (a0.extract 0 ((ji4) : Int).toNat)) ++ (⟨#[9, 32]⟩ : ByteArray))).bind fun t151 => (abutmentlaw01_OctetKeeps.j1 kj14 (a0.extract 0 ((ji4) : Int).toNat) t142 (t151.toList != t142.toList))) else (none)) else (none)) else (abutmentlaw01_OctetKeeps.j1 kj14 (a0.extract 0 ((ji4) : Int).toNat) t142 true))) = some r := by rw [if_neg (show ¬ (false = true) by decide)] at H; exact H
                    clear H
                    have H := H1
                    clear H1
                    have HC38 := Aside0.mk H
                    clear H
                    go_upto_region 5 with (fail)
                    repeat (go_quiet (fail); go_upto_region 5 with (fail))
                    go_cut [82] (fun v82 wc => ∃ (kq : Nat) (x82_37 : Bool), v82 = .bool x82_37 ∧ Aside0 (abutmentlaw01_OctetKeeps.j1 kq (a0.extract 0 ((ji4) : Int).toNat) t142 x82_37 = some r) ∧ Aside0 (kq ≤ kj14) ∧ Aside0 (Below w.heap.size w wc))
                    case first =>
                      have H := HC38.out
                      clear HC38
                      replace H := Option.bind_eq_some_iff.mp H
                      obtain ⟨t150, A390, H⟩ := H
                      replace H : (if t150.toList = t142.toList then (if 2 + (a0.extract 0 ((ji4) : Int).toNat).size ≤ 9223372036854775807 then (if ((⟨#[32, 9]⟩ : ByteArray) ++ (a0.extract 0 ((ji4) : Int).toNat)).size + 2 ≤ 9223372036854775807 then ((octet_Trim.f kj14 (((⟨#[32, 9]⟩ : ByteArray) ++ (a0.extract 0 ((ji4) : Int).toNat)) ++ (⟨#[9, 32]⟩ : ByteArray))).bind fun t151 => (abutmentlaw01_OctetKeeps.j1 kj14 (a0.extract 0 ((ji4) : Int).toNat) t142 (t151.toList != t142.toList))) else (none)) else (none)) else (abutmentlaw01_OctetKeeps.j1 kj14 (a0.extract 0 ((ji4) : Int).toNat) t142 true)) = some r := H
                      have A39 := Aside0.mk A390
                      clear A390
                      by_cases c40 : t150.toList = t142.toList
                      · rw [if_pos c40] at H
                        have c40b0 : (t150.toList == t142.toList) = true := beq_iff_eq.mpr c40
                        have c40b1 : (t150.toList != t142.toList) = false := bne_eq_false_iff_eq.mpr c40
                        clear c40
                        (first | rw [c40b0] | (simp only [i64_w, i32_w]; rw [c40b0]) | skip)
                        by_cases c41 : 2 + (a0.extract 0 ((ji4) : Int).toNat).size ≤ 9223372036854775807
                        · rw [if_pos c41] at H
                          have c41b0 := eq_true c41
                          have c41b1 : decide (2 + (a0.extract 0 ((ji4) : Int).toNat).size ≤ 9223372036854775807) = true := decide_eq_true c41
                          try have c41b2 : (9223372036854775807 < 2 + (a0.extract 0 ((ji4) : Int).toNat).size) = False := eq_false (Nat.not_lt.2 c41)
                          by_cases c42 : ((⟨#[32, 9]⟩ : ByteArray) ++ (a0.extract 0 ((ji4) : Int).toNat)).size + 2 ≤ 9223372036854775807
                          · rw [if_pos c42] at H
                            have c42b0 := eq_true c42
                            have c42b1 : decide (((⟨#[32, 9]⟩ : ByteArray) ++ (a0.extract 0 ((ji4) : Int).toNat)).size + 2 ≤ 9223372036854775807) = true := decide_eq_true c42
                            try have c42b2 : (9223372036854775807 < ((⟨#[32, 9]⟩ : ByteArray) ++ (a0.extract 0 ((ji4) : Int).toNat)).size + 2) = False := eq_false (Nat.not_lt.2 c42)
                            replace H := Option.bind_eq_some_iff.mp H
                            obtain ⟨t151, A430, H⟩ := H
                            replace H : (abutmentlaw01_OctetKeeps.j1 kj14 (a0.extract 0 ((ji4) : Int).toNat) t142 (t151.toList != t142.toList)) = some r := H
                            have A43 := Aside0.mk A430
                            clear A430
                            have H' := Aside0.mk H
                            clear H
                            go_wp2_with (first | (go_at_call 26; (with_reducible refine (octet_Trim.calls kj14 t142 t150 _ A39.out).mono ?_); rintro e w' ⟨rfl, ⟨nd, rfl⟩⟩; (try first | exact ⟨rfl, _, World.drewN_drewN _ _ _⟩ | exact ⟨rfl, _, Eq.trans (World.drewN_drewN _ _ _) (congrArg (World.drewN _) (Nat.add_assoc _ _ _))⟩)) | (go_at_call 26; (with_reducible refine (octet_Trim.calls kj14 (((⟨#[32, 9]⟩ : ByteArray) ++ (a0.extract 0 ((ji4) : Int).toNat)) ++ (⟨#[9, 32]⟩ : ByteArray)) t151 _ A43.out).mono ?_); rintro e w' ⟨rfl, ⟨nd, rfl⟩⟩; (try first | exact ⟨rfl, _, World.drewN_drewN _ _ _⟩ | exact ⟨rfl, _, Eq.trans (World.drewN_drewN _ _ _) (congrArg (World.drewN _) (Nat.add_assoc _ _ _))⟩)))
                            repeat (go_quiet (first | (go_at_call 26; (with_reducible refine (octet_Trim.calls kj14 t142 t150 _ A39.out).mono ?_); rintro e w' ⟨rfl, ⟨nd, rfl⟩⟩; (try first | exact ⟨rfl, _, World.drewN_drewN _ _ _⟩ | exact ⟨rfl, _, Eq.trans (World.drewN_drewN _ _ _) (congrArg (World.drewN _) (Nat.add_assoc _ _ _))⟩)) | (go_at_call 26; (with_reducible refine (octet_Trim.calls kj14 (((⟨#[32, 9]⟩ : ByteArray) ++ (a0.extract 0 ((ji4) : Int).toNat)) ++ (⟨#[9, 32]⟩ : ByteArray)) t151 _ A43.out).mono ?_); rintro e w' ⟨rfl, ⟨nd, rfl⟩⟩; (try first | exact ⟨rfl, _, World.drewN_drewN _ _ _⟩ | exact ⟨rfl, _, Eq.trans (World.drewN_drewN _ _ _) (congrArg (World.drewN _) (Nat.add_assoc _ _ _))⟩))); try go_wp2_with (first | (go_at_call 26; (with_reducible refine (octet_Trim.calls kj14 t142 t150 _ A39.out).mono ?_); rintro e w' ⟨rfl, ⟨nd, rfl⟩⟩; (try first | exact ⟨rfl, _, World.drewN_drewN _ _ _⟩ | exact ⟨rfl, _, Eq.trans (World.drewN_drewN _ _ _) (congrArg (World.drewN _) (Nat.add_assoc _ _ _))⟩)) | (go_at_call 26; (with_reducible refine (octet_Trim.calls kj14 (((⟨#[32, 9]⟩ : ByteArray) ++ (a0.extract 0 ((ji4) : Int).toNat)) ++ (⟨#[9, 32]⟩ : ByteArray)) t151 _ A43.out).mono ?_); rintro e w' ⟨rfl, ⟨nd, rfl⟩⟩; (try first | exact ⟨rfl, _, World.drewN_drewN _ _ _⟩ | exact ⟨rfl, _, Eq.trans (World.drewN_drewN _ _ _) (congrArg (World.drewN _) (Nat.add_assoc _ _ _))⟩))))
                            go_meet
                            case rel => exact ⟨_, ((t151.toList != t142.toList)), (by first | rfl | (simp; done) | (simp [*]; done)), H', ⟨by have := HJ14.out; first | omega | exact Nat.le_refl _⟩, ⟨by repeat (first | (with_reducible first | exact HB.out | apply below_alloc | apply pw_below_drewN | apply below_drew1) | exact HB.out)⟩⟩
                          · rw [if_neg c42] at H
                            exact absurd H (by simp)
                        · rw [if_neg c41] at H
                          exact absurd H (by simp)
                      · rw [if_neg c40] at H
                        have c40b0 : (t150.toList == t142.toList) = false := beq_eq_false_iff_ne.mpr c40
                        have c40b1 : (t150.toList != t142.toList) = true := bne_iff_ne.mpr c40
                        (first | rw [c40b0] | (simp only [i64_w, i32_w]; rw [c40b0]) | skip)
                        have H' := Aside0.mk H
                        clear H
                        go_wp2_with (first | (go_at_call 26; (with_reducible refine (octet_Trim.calls kj14 t142 t150 _ A39.out).mono ?_); rintro e w' ⟨rfl, ⟨nd, rfl⟩⟩; (try first | exact ⟨rfl, _, World.drewN_drewN _ _ _⟩ | exact ⟨rfl, _, Eq.trans (World.drewN_drewN _ _ _) (congrArg (World.drewN _) (Nat.add_assoc _ _ _))⟩)))
                        repeat (go_quiet (first | (go_at_call 26; (with_reducible refine (octet_Trim.calls kj14 t142 t150 _ A39.out).mono ?_); rintro e w' ⟨rfl, ⟨nd, rfl⟩⟩; (try first | exact ⟨rfl, _, World.drewN_drewN _ _ _⟩ | exact ⟨rfl, _, Eq.trans (World.drewN_drewN _ _ _) (congrArg (World.drewN _) (Nat.add_assoc _ _ _))⟩))); try go_wp2_with (first | (go_at_call 26; (with_reducible refine (octet_Trim.calls kj14 t142 t150 _ A39.out).mono ?_); rintro e w' ⟨rfl, ⟨nd, rfl⟩⟩; (try first | exact ⟨rfl, _, World.drewN_drewN _ _ _⟩ | exact ⟨rfl, _, Eq.trans (World.drewN_drewN _ _ _) (congrArg (World.drewN _) (Nat.add_assoc _ _ _))⟩))))
                        go_meet
                        case rel => exact ⟨_, (true), (by first | rfl | (simp; done) | (simp [*]; done)), H', ⟨by have := HJ14.out; first | omega | exact Nat.le_refl _⟩, ⟨by repeat (first | (with_reducible first | exact HB.out | apply below_alloc | apply pw_below_drewN | apply below_drew1) | exact HB.out)⟩⟩
                    case rest =>
                      clear HC38
                      try clear c1
                      try clear c2
                      try clear p2
                      try clear c3
                      try clear c4
                      try clear c5
                      try clear c5b0
                      try clear c5b1
                      try clear c6
                      try clear c6b0
                      try clear c6b1
                      try clear c8
                      try clear c8b0
                      try clear c8b1
                      try clear c9
                      try clear c9b0
                      try clear c9b1
                      try clear c11
                      try clear c11b0
                      try clear c11b1
                      try clear c12
                      try clear c12b0
                      try clear c12b1
                      try clear c18
                      try clear c18b0
                      try clear c18b1
                      try clear c19
                      try clear c19b0
                      try clear c19b1
                      try clear c19b2
                      try clear c21
                      try clear c24
                      try clear c24b0
                      try clear c24b1
                      try clear c24b2
                      try clear c27
                      try clear c29
                      try clear c37
                      try clear c40
                      try clear c40b0
                      try clear c40b1
                      try clear c41
                      try clear c41b0
                      try clear c41b1
                      try clear c41b2
                      try clear c42
                      try clear c42b0
                      try clear c42b1
                      try clear c42b2
                      try clear p2
                      obtain ⟨kq, x82_37, rfl, HA, HJ37, HB⟩ := hcut
                      cases kq with
                      | zero => exact absurd HA.out (by simp [abutmentlaw01_OctetKeeps.j1])
                      | succ kj37 =>
                        have H := HA.out
                        clear HA
                        simp only [abutmentlaw01_OctetKeeps.j1] at H
                        by_cases c44 : x82_37 = true
                        · subst c44
                          have H1 : (some false) = some r := by rw [if_pos rfl] at H; exact H
                          clear H
                          have H := H1
                          clear H1
                          obtain rfl := Option.some.inj H
                          go_wp2
                          repeat (go_quiet (fail); try go_wp2)
                          go_ret
                          exact ⟨by first | rfl | (simp [errW_none, errW_some] <;> rfl) | (simp only [← hji4, ← hji7, ← hji10]; first | rfl | (simp [errW_none, errW_some] <;> rfl)) | (simp [*, errW_none, errW_some] <;> rfl), by repeat (first | (with_reducible first | exact HB.out | apply below_alloc | apply pw_below_drewN | apply below_drew1) | exact HB.out)⟩
                        · replace c44 := Bool.eq_false_iff.mpr c44
                          subst c44
                          have H1 : (if (t142.size : Int) > 0 then (if 0 < (t142.size : Int) then (if (bt t142 0) = 32 then (abutmentlaw01_OctetKeeps.j2 kj37 (a0.extract 0 ((ji4) : Int).toNat) t142 true) else (if (bt t142 0) = 9 then (abutmentlaw01_OctetKeeps.j2 kj37 (a0.extract 0 ((ji4) : Int).toNat) t142 true) else (if 0 ≤ (wrap64 ((t142.size : Int) - 1)) then (if (wrap64 ((t142.size : Int) - 1)) < (t142.size : Int) then (if (bt t142 (wrap64 ((t142.size : Int) - 1))) = 32 then (abutmentlaw01_OctetKeeps.j2 kj37 (a0.extract 0 ((ji4) : Int).toNat) t142 true) else (abutmentlaw01_OctetKeeps.j2 kj37 (a0.extract 0 ((ji4) : Int).toNat) t142 ((bt t142 (wrap64 ((t142.size : Int) - 1))) == 9))) else (none)) else (none)))) else (none)) else (abutmentlaw01_OctetKeeps.j2 kj37 (a0.extract 0 ((ji4) : Int).toNat) t142 false)) = some r := by rw [if_neg (show ¬ (false = true) by decide)] at H; exact H
                          clear H
                          have H := H1
                          clear H1
                          have HC45 := Aside0.mk H
                          clear H
                          go_upto_region 8 with (fail)
                          repeat (go_quiet (fail); go_upto_region 8 with (fail))
                          go_cut [110] (fun v110 wc => ∃ (kq : Nat) (x110_44 : Bool), v110 = .bool x110_44 ∧ Aside0 (abutmentlaw01_OctetKeeps.j2 kq (a0.extract 0 ((ji4) : Int).toNat) t142 x110_44 = some r) ∧ Aside0 (kq ≤ kj37) ∧ Aside0 (Below w.heap.size w wc))
                          case first =>
                            have H := HC45.out
                            clear HC45
                            by_cases c46 : (t142.size : Int) > 0
                            · rw [if_pos c46] at H
                              have c46b0 : decide (0 < (t142.size : Int)) = true := decide_eq_true c46
                              have c46b1 : decide (0 < t142.size) = true := decide_eq_true (by omega)
                              clear c46
                              (first | rw [c46b0] | (simp only [i64_w, i32_w]; rw [c46b0]) | skip)
                              by_cases c47 : 0 < (t142.size : Int)
                              · rw [if_pos c47] at H
                                have c47b0 : decide (0 < (t142.size : Int)) = true := decide_eq_true c47
                                have c47b1 : decide (0 < t142.size) = true := decide_eq_true (by omega)
                                clear c47
                                by_cases c49 : (bt t142 0) = 32
                                · rw [if_pos c49] at H
                                  have c49b0 : ((bt t142 0) == 32) = true := beq_iff_eq.mpr c49
                                  have c49b1 : ((bt t142 0) != 32) = false := bne_eq_false_iff_eq.mpr c49
                                  clear c49
                                  have H' := Aside0.mk H
                                  clear H
                                  have p48 : 0 ≤ (0 : Int) := (by omega)
                                  have q48 : 0 < t142.size := (by have : (0 : Int) < (t142.size : Int) := of_decide_eq_true (by first | (with_reducible assumption) | assumption); omega)
                                  have hx48 : ∀ h : 0 < t142.size, ((t142[0]'h).toNat : Int) = bt t142 0 := bt_at t142 0
                                  clear p48
                                  have qi48 : (0 < (t142.size : Int)) = True := eq_true (of_decide_eq_true (by first | (with_reducible assumption) | assumption))
                                  replace q48 := eq_true q48
                                  go_wp2
                                  repeat (go_quiet (fail); try go_wp2)
                                  go_meet
                                  case rel => exact ⟨_, (true), (by first | rfl | (simp; done) | (simp [*]; done)), H', ⟨by have := HJ14.out; have := HJ37.out; first | omega | exact Nat.le_refl _⟩, ⟨by repeat (first | (with_reducible first | exact HB.out | apply below_alloc | apply pw_below_drewN | apply below_drew1) | exact HB.out)⟩⟩
                                · rw [if_neg c49] at H
                                  have c49b0 : ((bt t142 0) == 32) = false := beq_eq_false_iff_ne.mpr c49
                                  have c49b1 : ((bt t142 0) != 32) = true := bne_iff_ne.mpr c49
                                  by_cases c51 : (bt t142 0) = 9
                                  · rw [if_pos c51] at H
                                    have c51b0 : ((bt t142 0) == 9) = true := beq_iff_eq.mpr c51
                                    have c51b1 : ((bt t142 0) != 9) = false := bne_eq_false_iff_eq.mpr c51
                                    clear c51
                                    have H' := Aside0.mk H
                                    clear H
                                    have p48 : 0 ≤ (0 : Int) := (by omega)
                                    have q48 : 0 < t142.size := (by have : (0 : Int) < (t142.size : Int) := of_decide_eq_true (by first | (with_reducible assumption) | assumption); omega)
                                    have hx48 : ∀ h : 0 < t142.size, ((t142[0]'h).toNat : Int) = bt t142 0 := bt_at t142 0
                                    clear p48
                                    have qi48 : (0 < (t142.size : Int)) = True := eq_true (of_decide_eq_true (by first | (with_reducible assumption) | assumption))
                                    replace q48 := eq_true q48
                                    have p50 : 0 ≤ (0 : Int) := (by omega)
                                    have q50 : 0 < t142.size := (by have : (0 : Int) < (t142.size : Int) := of_decide_eq_true (by first | (with_reducible assumption) | assumption); omega)
                                    have hx50 : ∀ h : 0 < t142.size, ((t142[0]'h).toNat : Int) = bt t142 0 := bt_at t142 0
                                    clear p50
                                    have qi50 : (0 < (t142.size : Int)) = True := eq_true (of_decide_eq_true (by first | (with_reducible assumption) | assumption))
                                    replace q50 := eq_true q50
                                    go_wp2
                                    repeat (go_quiet (fail); try go_wp2)
                                    go_meet
                                    case rel => exact ⟨_, (true), (by first | rfl | (simp; done) | (simp [*]; done)), H', ⟨by have := HJ14.out; have := HJ37.out; first | omega | exact Nat.le_refl _⟩, ⟨by repeat (first | (with_reducible first | exact HB.out | apply below_alloc | apply pw_below_drewN | apply below_drew1) | exact HB.out)⟩⟩
                                  · rw [if_neg c51] at H
                                    have c51b0 : ((bt t142 0) == 9) = false := beq_eq_false_iff_ne.mpr c51
                                    have c51b1 : ((bt t142 0) != 9) = true := bne_iff_ne.mpr c51
                                    obtain ⟨ji52, hji52⟩ : ∃ j_ : Int, (wrap64 ((t142.size : Int) - 1)) = j_ := ⟨_, rfl⟩
                                    replace H : (if 0 ≤ (ji52) then (if (ji52) < (t142.size : Int) then (if (bt t142 (ji52)) = 32 then (abutmentlaw01_OctetKeeps.j2 kj37 (a0.extract 0 ((ji4) : Int).toNat) t142 true) else (abutmentlaw01_OctetKeeps.j2 kj37 (a0.extract 0 ((ji4) : Int).toNat) t142 ((bt t142 (ji52)) == 9))) else (none)) else (none)) = some r := by first | (rw [hji52] at H; exact H) | (simp only [hji52] at H ⊢; exact H)
                                    have hji52w : (IntKind.i64.wrap ((t142.size : Int) - 1)) = ji52 := (i64_w _).trans hji52
                                    by_cases c53 : 0 ≤ (ji52)
                                    · rw [if_pos c53] at H
                                      have c53b0 : decide (0 ≤ (ji52)) = true := decide_eq_true c53
                                      clear c53
                                      by_cases c54 : (ji52) < (t142.size : Int)
                                      · rw [if_pos c54] at H
                                        have c54b0 : decide ((ji52) < (t142.size : Int)) = true := decide_eq_true c54
                                        clear c54
                                        by_cases c56 : (bt t142 (ji52)) = 32
                                        · rw [if_pos c56] at H
                                          have c56b0 : ((bt t142 (ji52)) == 32) = true := beq_iff_eq.mpr c56
                                          have c56b1 : ((bt t142 (ji52)) != 32) = false := bne_eq_false_iff_eq.mpr c56
                                          clear c56
                                          have H' := Aside0.mk H
                                          clear H
                                          have p48 : 0 ≤ (0 : Int) := (by omega)
                                          have q48 : 0 < t142.size := (by have : (0 : Int) < (t142.size : Int) := of_decide_eq_true (by first | (with_reducible assumption) | assumption); omega)
                                          have hx48 : ∀ h : 0 < t142.size, ((t142[0]'h).toNat : Int) = bt t142 0 := bt_at t142 0
                                          clear p48
                                          have qi48 : (0 < (t142.size : Int)) = True := eq_true (of_decide_eq_true (by first | (with_reducible assumption) | assumption))
                                          replace q48 := eq_true q48
                                          have p50 : 0 ≤ (0 : Int) := (by omega)
                                          have q50 : 0 < t142.size := (by have : (0 : Int) < (t142.size : Int) := of_decide_eq_true (by first | (with_reducible assumption) | assumption); omega)
                                          have hx50 : ∀ h : 0 < t142.size, ((t142[0]'h).toNat : Int) = bt t142 0 := bt_at t142 0
                                          clear p50
                                          have qi50 : (0 < (t142.size : Int)) = True := eq_true (of_decide_eq_true (by first | (with_reducible assumption) | assumption))
                                          replace q50 := eq_true q50
                                          have p55 : 0 ≤ ((ji52) : Int) := of_decide_eq_true (by first | (with_reducible assumption) | assumption)
                                          have q55 : (ji52) < (t142.size : Int) := of_decide_eq_true (by first | (with_reducible assumption) | assumption)
                                          have hx55 := bt_at t142 (ji52)
                                          replace p55 := eq_true p55
                                          replace q55 := eq_true q55
                                          go_wp2
                                          repeat (go_quiet (fail); try go_wp2)
                                          go_meet
                                          case rel => exact ⟨_, (true), (by first | rfl | (simp; done) | (simp [*]; done)), H', ⟨by have := HJ14.out; have := HJ37.out; first | omega | exact Nat.le_refl _⟩, ⟨by repeat (first | (with_reducible first | exact HB.out | apply below_alloc | apply pw_below_drewN | apply below_drew1) | exact HB.out)⟩⟩
                                        · rw [if_neg c56] at H
                                          have c56b0 : ((bt t142 (ji52)) == 32) = false := beq_eq_false_iff_ne.mpr c56
                                          have c56b1 : ((bt t142 (ji52)) != 32) = true := bne_iff_ne.mpr c56
                                          have H' := Aside0.mk H
                                          clear H
                                          have p48 : 0 ≤ (0 : Int) := (by omega)
                                          have q48 : 0 < t142.size := (by have : (0 : Int) < (t142.size : Int) := of_decide_eq_true (by first | (with_reducible assumption) | assumption); omega)
                                          have hx48 : ∀ h : 0 < t142.size, ((t142[0]'h).toNat : Int) = bt t142 0 := bt_at t142 0
                                          clear p48
                                          have qi48 : (0 < (t142.size : Int)) = True := eq_true (of_decide_eq_true (by first | (with_reducible assumption) | assumption))
                                          replace q48 := eq_true q48
                                          have p50 : 0 ≤ (0 : Int) := (by omega)
                                          have q50 : 0 < t142.size := (by have : (0 : Int) < (t142.size : Int) := of_decide_eq_true (by first | (with_reducible assumption) | assumption); omega)
                                          have hx50 : ∀ h : 0 < t142.size, ((t142[0]'h).toNat : Int) = bt t142 0 := bt_at t142 0
                                          clear p50
                                          have qi50 : (0 < (t142.size : Int)) = True := eq_true (of_decide_eq_true (by first | (with_reducible assumption) | assumption))
                                          replace q50 := eq_true q50
                                          have p55 : 0 ≤ ((ji52) : Int) := of_decide_eq_true (by first | (with_reducible assumption) | assumption)
                                          have q55 : (ji52) < (t142.size : Int) := of_decide_eq_true (by first | (with_reducible assumption) | assumption)
                                          have hx55 := bt_at t142 (ji52)
                                          replace p55 := eq_true p55
                                          replace q55 := eq_true q55
                                          have p57 : 0 ≤ ((ji52) : Int) := of_decide_eq_true (by first | (with_reducible assumption) | assumption)
                                          have q57 : (ji52) < (t142.size : Int) := of_decide_eq_true (by first | (with_reducible assumption) | assumption)
                                          have hx57 := bt_at t142 (ji52)
                                          replace p57 := eq_true p57
                                          replace q57 := eq_true q57
                                          go_wp2
                                          repeat (go_quiet (fail); try go_wp2)
                                          go_meet
                                          case rel => exact ⟨_, (((bt t142 (ji52)) == 9)), (by first | rfl | (simp; done) | (simp only [← hji52] <;> (first | rfl | simp)) | (simp [*]; done)), H', ⟨by have := HJ14.out; have := HJ37.out; first | omega | exact Nat.le_refl _⟩, ⟨by repeat (first | (with_reducible first | exact HB.out | apply below_alloc | apply pw_below_drewN | apply below_drew1) | exact HB.out)⟩⟩
                                      · rw [if_neg c54] at H
                                        exact absurd H (by simp)
                                    · rw [if_neg c53] at H
                                      exact absurd H (by simp)
                              · rw [if_neg c47] at H
                                exact absurd H (by simp)
                            · rw [if_neg c46] at H
                              have c46b0 : decide (0 < (t142.size : Int)) = false := decide_eq_false c46
                              have c46b1 : decide (0 < t142.size) = false := decide_eq_false (by omega)
                              clear c46
                              (first | rw [c46b0] | (simp only [i64_w, i32_w]; rw [c46b0]) | skip)
                              have H' := Aside0.mk H
                              clear H
                              go_wp2
                              repeat (go_quiet (fail); try go_wp2)
                              go_meet
                              case rel => exact ⟨_, (false), (by first | rfl | (simp; done) | (simp [*]; done)), H', ⟨by have := HJ14.out; have := HJ37.out; first | omega | exact Nat.le_refl _⟩, ⟨by repeat (first | (with_reducible first | exact HB.out | apply below_alloc | apply pw_below_drewN | apply below_drew1) | exact HB.out)⟩⟩
                          case rest =>
                            clear HC45
                            try clear c1
                            try clear c2
                            try clear p2
                            try clear c3
                            try clear c4
                            try clear p4
                            try clear q4
                            try clear hx4
                            try clear qi4
                            try clear c5
                            try clear c5b0
                            try clear c5b1
                            try clear p5
                            try clear q5
                            try clear hx5
                            try clear qi5
                            try clear c6
                            try clear c6b0
                            try clear c6b1
                            try clear p6
                            try clear c8
                            try clear c8b0
                            try clear c8b1
                            try clear c9
                            try clear c9b0
                            try clear c9b1
                            try clear c11
                            try clear c11b0
                            try clear c11b1
                            try clear c12
                            try clear c12b0
                            try clear c12b1
                            try clear c18
                            try clear c18b0
                            try clear c18b1
                            try clear c19
                            try clear c19b0
                            try clear c19b1
                            try clear c19b2
                            try clear c21
                            try clear c24
                            try clear c24b0
                            try clear c24b1
                            try clear c24b2
                            try clear c27
                            try clear c29
                            try clear c37
                            try clear c40
                            try clear c40b0
                            try clear c40b1
                            try clear c41
                            try clear c41b0
                            try clear c41b1
                            try clear c41b2
                            try clear c42
                            try clear c42b0
                            try clear c42b1
                            try clear c42b2
                            try clear c44
                            try clear c46
                            try clear c46b0
                            try clear c46b1
                            try clear c47
                            try clear c47b0
                            try clear c47b1
                            try clear p48
                            try clear q48
                            try clear hx48
                            try clear qi48
                            try clear c49
                            try clear c49b0
                            try clear c49b1
                            try clear p50
                            try clear q50
                            try clear hx50
                            try clear qi50
                            try clear c51
                            try clear c51b0
                            try clear c51b1
                            try clear c53
                            try clear c53b0
                            try clear c54
                            try clear c54b0
                            try clear p55
                            try clear q55
                            try clear hx55
                            try clear c56
                            try clear c56b0
                            try clear c56b1
                            try clear p57
                            try clear q57
                            try clear hx57
                            try clear p2
                            try clear p48
                            try clear p50
                            try clear p55
                            try clear p57
                            try clear q48
                            try clear q50
                            try clear q55
                            try clear q57
                            obtain ⟨kq, x110_44, rfl, HA, HJ44, HB⟩ := hcut
                            cases kq with
                            | zero => exact absurd HA.out (by simp [abutmentlaw01_OctetKeeps.j2])
                            | succ kj44 =>
                              have H := HA.out
                              clear HA
                              simp only [abutmentlaw01_OctetKeeps.j2] at H
                              by_cases c58 : x110_44 = true
                              · subst c58
                                have H1 : (some false) = some r := by rw [if_pos rfl] at H; exact H
                                clear H
                                have H := H1
                                clear H1
                                obtain rfl := Option.some.inj H
                                go_wp2
                                repeat (go_quiet (fail); try go_wp2)
                                go_ret
                                exact ⟨by first | rfl | (simp [errW_none, errW_some] <;> rfl) | (simp only [← hji4, ← hji7, ← hji10]; first | rfl | (simp [errW_none, errW_some] <;> rfl)) | (simp [*, errW_none, errW_some] <;> rfl), by repeat (first | (with_reducible first | exact HB.out | apply below_alloc | apply pw_below_drewN | apply below_drew1) | exact HB.out)⟩
                              · replace c58 := Bool.eq_false_iff.mpr c58
                                subst c58
                                have H1 : ((octet_Token.f (a0.extract 0 ((ji4) : Int).toNat)).bind fun t152 => (if t152 = true then (if t142.toList = (a0.extract 0 ((ji4) : Int).toNat).toList then ((octet_Visible.f (a0.extract 0 ((ji4) : Int).toNat)).bind fun t153 => (if t153 = true then ((octet_Value.f (a0.extract 0 ((ji4) : Int).toNat)).bind fun t154 => (if t154 = true then ((abutmentlaw01_lives.f kj44).bind fun t155 => (some t155)) else (some false))) else (some false))) else (some false)) else ((abutmentlaw01_lives.f kj44).bind fun t156 => (some t156)))) = some r := by rw [if_neg (show ¬ (false = true) by decide)] at H; exact H
                                clear H
                                have H := H1
                                clear H1
                                replace H := Option.bind_eq_some_iff.mp H
                                obtain ⟨t152, A590, H⟩ := H
                                replace H : (if t152 = true then (if t142.toList = (a0.extract 0 ((ji4) : Int).toNat).toList then ((octet_Visible.f (a0.extract 0 ((ji4) : Int).toNat)).bind fun t153 => (if t153 = true then ((octet_Value.f (a0.extract 0 ((ji4) : Int).toNat)).bind fun t154 => (if t154 = true then ((abutmentlaw01_lives.f kj44).bind fun t155 => (some t155)) else (some false))) else (some false))) else (some false)) else ((abutmentlaw01_lives.f kj44).bind fun t156 => (some t156))) = some r := H
                                have A59 := Aside0.mk A590
                                clear A590
                                by_cases c60 : t152 = true
                                · subst c60
                                  have H1 : (if t142.toList = (a0.extract 0 ((ji4) : Int).toNat).toList then ((octet_Visible.f (a0.extract 0 ((ji4) : Int).toNat)).bind fun t153 => (if t153 = true then ((octet_Value.f (a0.extract 0 ((ji4) : Int).toNat)).bind fun t154 => (if t154 = true then ((abutmentlaw01_lives.f kj44).bind fun t155 => (some t155)) else (some false))) else (some false))) else (some false)) = some r := by rw [if_pos rfl] at H; exact H
                                  clear H
                                  have H := H1
                                  clear H1
                                  by_cases c61 : t142.toList = (a0.extract 0 ((ji4) : Int).toNat).toList
                                  · rw [if_pos c61] at H
                                    have c61b0 : (t142.toList == (a0.extract 0 ((ji4) : Int).toNat).toList) = true := beq_iff_eq.mpr c61
                                    have c61b1 : (t142.toList != (a0.extract 0 ((ji4) : Int).toNat).toList) = false := bne_eq_false_iff_eq.mpr c61
                                    clear c61
                                    replace H := Option.bind_eq_some_iff.mp H
                                    obtain ⟨t153, A620, H⟩ := H
                                    replace H : (if t153 = true then ((octet_Value.f (a0.extract 0 ((ji4) : Int).toNat)).bind fun t154 => (if t154 = true then ((abutmentlaw01_lives.f kj44).bind fun t155 => (some t155)) else (some false))) else (some false)) = some r := H
                                    have A62 := Aside0.mk A620
                                    clear A620
                                    by_cases c63 : t153 = true
                                    · subst c63
                                      have H1 : ((octet_Value.f (a0.extract 0 ((ji4) : Int).toNat)).bind fun t154 => (if t154 = true then ((abutmentlaw01_lives.f kj44).bind fun t155 => (some t155)) else (some false))) = some r := by rw [if_pos rfl] at H; exact H
                                      clear H
                                      have H := H1
                                      clear H1
                                      replace H := Option.bind_eq_some_iff.mp H
                                      obtain ⟨t154, A640, H⟩ := H
                                      replace H : (if t154 = true then ((abutmentlaw01_lives.f kj44).bind fun t155 => (some t155)) else (some false)) = some r := H
                                      have A64 := Aside0.mk A640
                                      clear A640
                                      by_cases c65 : t154 = true
                                      · subst c65
                                        have H1 : ((abutmentlaw01_lives.f kj44).bind fun t155 => (some t155)) = some r := by rw [if_pos rfl] at H; exact H
                                        clear H
                                        have H := H1
                                        clear H1
                                        replace H := Option.bind_eq_some_iff.mp H
                                        obtain ⟨t155, A660, H⟩ := H
                                        replace H : (some t155) = some r := H
                                        have A66 := Aside0.mk A660
                                        clear A660
                                        obtain rfl := Option.some.inj H
                                        go_wp2_with (first | (go_at_call 30; (with_reducible refine (octet_Token.calls (a0.extract 0 ((ji4) : Int).toNat) true _ A59.out).mono ?_); rintro e w67 ⟨rfl, hb⟩; have n0_ := Aside0.mk (below_step (by repeat (first | (with_reducible first | exact HB.out | apply below_alloc | apply pw_below_drewN | apply below_drew1) | exact HB.out)) hb); clear HB; have HB := n0_; clear n0_; (try clear hb); (try clear hb2); (try clear hk); (try clear hi)) | (go_at_call 31; (with_reducible refine (octet_Visible.calls (a0.extract 0 ((ji4) : Int).toNat) true _ A62.out).mono ?_); rintro e w68 ⟨rfl, hb⟩; have n0_ := Aside0.mk (below_step (by repeat (first | (with_reducible first | exact HB.out | apply below_alloc | apply pw_below_drewN | apply below_drew1) | exact HB.out)) hb); clear HB; have HB := n0_; clear n0_; (try clear hb); (try clear hb2); (try clear hk); (try clear hi)) | (go_at_call 32; (with_reducible refine (octet_Value.calls (a0.extract 0 ((ji4) : Int).toNat) true _ A64.out).mono ?_); rintro e w69 ⟨rfl, hb⟩; have n0_ := Aside0.mk (below_step (by repeat (first | (with_reducible first | exact HB.out | apply below_alloc | apply pw_below_drewN | apply below_drew1) | exact HB.out)) hb); clear HB; have HB := n0_; clear n0_; (try clear hb); (try clear hb2); (try clear hk); (try clear hi)) | (go_at_call 28; (with_reducible refine (abutmentlaw01_lives.calls kj44  t155 _ A66.out).mono ?_); rintro e w70 ⟨rfl, hb⟩; have n0_ := Aside0.mk (below_step (by repeat (first | (with_reducible first | exact HB.out | apply below_alloc | apply pw_below_drewN | apply below_drew1) | exact HB.out)) hb); clear HB; have HB := n0_; clear n0_; (try clear hb); (try clear hb2); (try clear hk); (try clear hi)))
                                        repeat (go_quiet (first | (go_at_call 30; (with_reducible refine (octet_Token.calls (a0.extract 0 ((ji4) : Int).toNat) true _ A59.out).mono ?_); rintro e w67 ⟨rfl, hb⟩; have n0_ := Aside0.mk (below_step (by repeat (first | (with_reducible first | exact HB.out | apply below_alloc | apply pw_below_drewN | apply below_drew1) | exact HB.out)) hb); clear HB; have HB := n0_; clear n0_; (try clear hb); (try clear hb2); (try clear hk); (try clear hi)) | (go_at_call 31; (with_reducible refine (octet_Visible.calls (a0.extract 0 ((ji4) : Int).toNat) true _ A62.out).mono ?_); rintro e w68 ⟨rfl, hb⟩; have n0_ := Aside0.mk (below_step (by repeat (first | (with_reducible first | exact HB.out | apply below_alloc | apply pw_below_drewN | apply below_drew1) | exact HB.out)) hb); clear HB; have HB := n0_; clear n0_; (try clear hb); (try clear hb2); (try clear hk); (try clear hi)) | (go_at_call 32; (with_reducible refine (octet_Value.calls (a0.extract 0 ((ji4) : Int).toNat) true _ A64.out).mono ?_); rintro e w69 ⟨rfl, hb⟩; have n0_ := Aside0.mk (below_step (by repeat (first | (with_reducible first | exact HB.out | apply below_alloc | apply pw_below_drewN | apply below_drew1) | exact HB.out)) hb); clear HB; have HB := n0_; clear n0_; (try clear hb); (try clear hb2); (try clear hk); (try clear hi)) | (go_at_call 28; (with_reducible refine (abutmentlaw01_lives.calls kj44  t155 _ A66.out).mono ?_); rintro e w70 ⟨rfl, hb⟩; have n0_ := Aside0.mk (below_step (by repeat (first | (with_reducible first | exact HB.out | apply below_alloc | apply pw_below_drewN | apply below_drew1) | exact HB.out)) hb); clear HB; have HB := n0_; clear n0_; (try clear hb); (try clear hb2); (try clear hk); (try clear hi))); try go_wp2_with (first | (go_at_call 30; (with_reducible refine (octet_Token.calls (a0.extract 0 ((ji4) : Int).toNat) true _ A59.out).mono ?_); rintro e w67 ⟨rfl, hb⟩; have n0_ := Aside0.mk (below_step (by repeat (first | (with_reducible first | exact HB.out | apply below_alloc | apply pw_below_drewN | apply below_drew1) | exact HB.out)) hb); clear HB; have HB := n0_; clear n0_; (try clear hb); (try clear hb2); (try clear hk); (try clear hi)) | (go_at_call 31; (with_reducible refine (octet_Visible.calls (a0.extract 0 ((ji4) : Int).toNat) true _ A62.out).mono ?_); rintro e w68 ⟨rfl, hb⟩; have n0_ := Aside0.mk (below_step (by repeat (first | (with_reducible first | exact HB.out | apply below_alloc | apply pw_below_drewN | apply below_drew1) | exact HB.out)) hb); clear HB; have HB := n0_; clear n0_; (try clear hb); (try clear hb2); (try clear hk); (try clear hi)) | (go_at_call 32; (with_reducible refine (octet_Value.calls (a0.extract 0 ((ji4) : Int).toNat) true _ A64.out).mono ?_); rintro e w69 ⟨rfl, hb⟩; have n0_ := Aside0.mk (below_step (by repeat (first | (with_reducible first | exact HB.out | apply below_alloc | apply pw_below_drewN | apply below_drew1) | exact HB.out)) hb); clear HB; have HB := n0_; clear n0_; (try clear hb); (try clear hb2); (try clear hk); (try clear hi)) | (go_at_call 28; (with_reducible refine (abutmentlaw01_lives.calls kj44  t155 _ A66.out).mono ?_); rintro e w70 ⟨rfl, hb⟩; have n0_ := Aside0.mk (below_step (by repeat (first | (with_reducible first | exact HB.out | apply below_alloc | apply pw_below_drewN | apply below_drew1) | exact HB.out)) hb); clear HB; have HB := n0_; clear n0_; (try clear hb); (try clear hb2); (try clear hk); (try clear hi))))
                                        go_ret
                                        exact ⟨by first | rfl | (simp [errW_none, errW_some] <;> rfl) | (simp only [← hji4, ← hji7, ← hji10]; first | rfl | (simp [errW_none, errW_some] <;> rfl)) | (simp [*, errW_none, errW_some] <;> rfl), by repeat (first | (with_reducible first | exact HB.out | apply below_alloc | apply pw_below_drewN | apply below_drew1) | exact HB.out)⟩
                                      · replace c65 := Bool.eq_false_iff.mpr c65
                                        subst c65
                                        have H1 : (some false) = some r := by rw [if_neg (show ¬ (false = true) by decide)] at H; exact H
                                        clear H
                                        have H := H1
                                        clear H1
                                        obtain rfl := Option.some.inj H
                                        go_wp2_with (first | (go_at_call 30; (with_reducible refine (octet_Token.calls (a0.extract 0 ((ji4) : Int).toNat) true _ A59.out).mono ?_); rintro e w71 ⟨rfl, hb⟩; have n0_ := Aside0.mk (below_step (by repeat (first | (with_reducible first | exact HB.out | apply below_alloc | apply pw_below_drewN | apply below_drew1) | exact HB.out)) hb); clear HB; have HB := n0_; clear n0_; (try clear hb); (try clear hb2); (try clear hk); (try clear hi)) | (go_at_call 31; (with_reducible refine (octet_Visible.calls (a0.extract 0 ((ji4) : Int).toNat) true _ A62.out).mono ?_); rintro e w72 ⟨rfl, hb⟩; have n0_ := Aside0.mk (below_step (by repeat (first | (with_reducible first | exact HB.out | apply below_alloc | apply pw_below_drewN | apply below_drew1) | exact HB.out)) hb); clear HB; have HB := n0_; clear n0_; (try clear hb); (try clear hb2); (try clear hk); (try clear hi)) | (go_at_call 32; (with_reducible refine (octet_Value.calls (a0.extract 0 ((ji4) : Int).toNat) false _ A64.out).mono ?_); rintro e w73 ⟨rfl, hb⟩; have n0_ := Aside0.mk (below_step (by repeat (first | (with_reducible first | exact HB.out | apply below_alloc | apply pw_below_drewN | apply below_drew1) | exact HB.out)) hb); clear HB; have HB := n0_; clear n0_; (try clear hb); (try clear hb2); (try clear hk); (try clear hi)))
                                        repeat (go_quiet (first | (go_at_call 30; (with_reducible refine (octet_Token.calls (a0.extract 0 ((ji4) : Int).toNat) true _ A59.out).mono ?_); rintro e w71 ⟨rfl, hb⟩; have n0_ := Aside0.mk (below_step (by repeat (first | (with_reducible first | exact HB.out | apply below_alloc | apply pw_below_drewN | apply below_drew1) | exact HB.out)) hb); clear HB; have HB := n0_; clear n0_; (try clear hb); (try clear hb2); (try clear hk); (try clear hi)) | (go_at_call 31; (with_reducible refine (octet_Visible.calls (a0.extract 0 ((ji4) : Int).toNat) true _ A62.out).mono ?_); rintro e w72 ⟨rfl, hb⟩; have n0_ := Aside0.mk (below_step (by repeat (first | (with_reducible first | exact HB.out | apply below_alloc | apply pw_below_drewN | apply below_drew1) | exact HB.out)) hb); clear HB; have HB := n0_; clear n0_; (try clear hb); (try clear hb2); (try clear hk); (try clear hi)) | (go_at_call 32; (with_reducible refine (octet_Value.calls (a0.extract 0 ((ji4) : Int).toNat) false _ A64.out).mono ?_); rintro e w73 ⟨rfl, hb⟩; have n0_ := Aside0.mk (below_step (by repeat (first | (with_reducible first | exact HB.out | apply below_alloc | apply pw_below_drewN | apply below_drew1) | exact HB.out)) hb); clear HB; have HB := n0_; clear n0_; (try clear hb); (try clear hb2); (try clear hk); (try clear hi))); try go_wp2_with (first | (go_at_call 30; (with_reducible refine (octet_Token.calls (a0.extract 0 ((ji4) : Int).toNat) true _ A59.out).mono ?_); rintro e w71 ⟨rfl, hb⟩; have n0_ := Aside0.mk (below_step (by repeat (first | (with_reducible first | exact HB.out | apply below_alloc | apply pw_below_drewN | apply below_drew1) | exact HB.out)) hb); clear HB; have HB := n0_; clear n0_; (try clear hb); (try clear hb2); (try clear hk); (try clear hi)) | (go_at_call 31; (with_reducible refine (octet_Visible.calls (a0.extract 0 ((ji4) : Int).toNat) true _ A62.out).mono ?_); rintro e w72 ⟨rfl, hb⟩; have n0_ := Aside0.mk (below_step (by repeat (first | (with_reducible first | exact HB.out | apply below_alloc | apply pw_below_drewN | apply below_drew1) | exact HB.out)) hb); clear HB; have HB := n0_; clear n0_; (try clear hb); (try clear hb2); (try clear hk); (try clear hi)) | (go_at_call 32; (with_reducible refine (octet_Value.calls (a0.extract 0 ((ji4) : Int).toNat) false _ A64.out).mono ?_); rintro e w73 ⟨rfl, hb⟩; have n0_ := Aside0.mk (below_step (by repeat (first | (with_reducible first | exact HB.out | apply below_alloc | apply pw_below_drewN | apply below_drew1) | exact HB.out)) hb); clear HB; have HB := n0_; clear n0_; (try clear hb); (try clear hb2); (try clear hk); (try clear hi))))
                                        go_ret
                                        exact ⟨by first | rfl | (simp [errW_none, errW_some] <;> rfl) | (simp only [← hji4, ← hji7, ← hji10]; first | rfl | (simp [errW_none, errW_some] <;> rfl)) | (simp [*, errW_none, errW_some] <;> rfl), by repeat (first | (with_reducible first | exact HB.out | apply below_alloc | apply pw_below_drewN | apply below_drew1) | exact HB.out)⟩
                                    · replace c63 := Bool.eq_false_iff.mpr c63
                                      subst c63
                                      have H1 : (some false) = some r := by rw [if_neg (show ¬ (false = true) by decide)] at H; exact H
                                      clear H
                                      have H := H1
                                      clear H1
                                      obtain rfl := Option.some.inj H
                                      go_wp2_with (first | (go_at_call 30; (with_reducible refine (octet_Token.calls (a0.extract 0 ((ji4) : Int).toNat) true _ A59.out).mono ?_); rintro e w74 ⟨rfl, hb⟩; have n0_ := Aside0.mk (below_step (by repeat (first | (with_reducible first | exact HB.out | apply below_alloc | apply pw_below_drewN | apply below_drew1) | exact HB.out)) hb); clear HB; have HB := n0_; clear n0_; (try clear hb); (try clear hb2); (try clear hk); (try clear hi)) | (go_at_call 31; (with_reducible refine (octet_Visible.calls (a0.extract 0 ((ji4) : Int).toNat) false _ A62.out).mono ?_); rintro e w75 ⟨rfl, hb⟩; have n0_ := Aside0.mk (below_step (by repeat (first | (with_reducible first | exact HB.out | apply below_alloc | apply pw_below_drewN | apply below_drew1) | exact HB.out)) hb); clear HB; have HB := n0_; clear n0_; (try clear hb); (try clear hb2); (try clear hk); (try clear hi)))
                                      repeat (go_quiet (first | (go_at_call 30; (with_reducible refine (octet_Token.calls (a0.extract 0 ((ji4) : Int).toNat) true _ A59.out).mono ?_); rintro e w74 ⟨rfl, hb⟩; have n0_ := Aside0.mk (below_step (by repeat (first | (with_reducible first | exact HB.out | apply below_alloc | apply pw_below_drewN | apply below_drew1) | exact HB.out)) hb); clear HB; have HB := n0_; clear n0_; (try clear hb); (try clear hb2); (try clear hk); (try clear hi)) | (go_at_call 31; (with_reducible refine (octet_Visible.calls (a0.extract 0 ((ji4) : Int).toNat) false _ A62.out).mono ?_); rintro e w75 ⟨rfl, hb⟩; have n0_ := Aside0.mk (below_step (by repeat (first | (with_reducible first | exact HB.out | apply below_alloc | apply pw_below_drewN | apply below_drew1) | exact HB.out)) hb); clear HB; have HB := n0_; clear n0_; (try clear hb); (try clear hb2); (try clear hk); (try clear hi))); try go_wp2_with (first | (go_at_call 30; (with_reducible refine (octet_Token.calls (a0.extract 0 ((ji4) : Int).toNat) true _ A59.out).mono ?_); rintro e w74 ⟨rfl, hb⟩; have n0_ := Aside0.mk (below_step (by repeat (first | (with_reducible first | exact HB.out | apply below_alloc | apply pw_below_drewN | apply below_drew1) | exact HB.out)) hb); clear HB; have HB := n0_; clear n0_; (try clear hb); (try clear hb2); (try clear hk); (try clear hi)) | (go_at_call 31; (with_reducible refine (octet_Visible.calls (a0.extract 0 ((ji4) : Int).toNat) false _ A62.out).mono ?_); rintro e w75 ⟨rfl, hb⟩; have n0_ := Aside0.mk (below_step (by repeat (first | (with_reducible first | exact HB.out | apply below_alloc | apply pw_below_drewN | apply below_drew1) | exact HB.out)) hb); clear HB; have HB := n0_; clear n0_; (try clear hb); (try clear hb2); (try clear hk); (try clear hi))))
                                      go_ret
                                      exact ⟨by first | rfl | (simp [errW_none, errW_some] <;> rfl) | (simp only [← hji4, ← hji7, ← hji10]; first | rfl | (simp [errW_none, errW_some] <;> rfl)) | (simp [*, errW_none, errW_some] <;> rfl), by repeat (first | (with_reducible first | exact HB.out | apply below_alloc | apply pw_below_drewN | apply below_drew1) | exact HB.out)⟩
                                  · rw [if_neg c61] at H
                                    have c61b0 : (t142.toList == (a0.extract 0 ((ji4) : Int).toNat).toList) = false := beq_eq_false_iff_ne.mpr c61
                                    have c61b1 : (t142.toList != (a0.extract 0 ((ji4) : Int).toNat).toList) = true := bne_iff_ne.mpr c61
                                    obtain rfl := Option.some.inj H
                                    go_wp2_with (first | (go_at_call 30; (with_reducible refine (octet_Token.calls (a0.extract 0 ((ji4) : Int).toNat) true _ A59.out).mono ?_); rintro e w76 ⟨rfl, hb⟩; have n0_ := Aside0.mk (below_step (by repeat (first | (with_reducible first | exact HB.out | apply below_alloc | apply pw_below_drewN | apply below_drew1) | exact HB.out)) hb); clear HB; have HB := n0_; clear n0_; (try clear hb); (try clear hb2); (try clear hk); (try clear hi)))
                                    repeat (go_quiet (first | (go_at_call 30; (with_reducible refine (octet_Token.calls (a0.extract 0 ((ji4) : Int).toNat) true _ A59.out).mono ?_); rintro e w76 ⟨rfl, hb⟩; have n0_ := Aside0.mk (below_step (by repeat (first | (with_reducible first | exact HB.out | apply below_alloc | apply pw_below_drewN | apply below_drew1) | exact HB.out)) hb); clear HB; have HB := n0_; clear n0_; (try clear hb); (try clear hb2); (try clear hk); (try clear hi))); try go_wp2_with (first | (go_at_call 30; (with_reducible refine (octet_Token.calls (a0.extract 0 ((ji4) : Int).toNat) true _ A59.out).mono ?_); rintro e w76 ⟨rfl, hb⟩; have n0_ := Aside0.mk (below_step (by repeat (first | (with_reducible first | exact HB.out | apply below_alloc | apply pw_below_drewN | apply below_drew1) | exact HB.out)) hb); clear HB; have HB := n0_; clear n0_; (try clear hb); (try clear hb2); (try clear hk); (try clear hi))))
                                    go_ret
                                    exact ⟨by first | rfl | (simp [errW_none, errW_some] <;> rfl) | (simp only [← hji4, ← hji7, ← hji10]; first | rfl | (simp [errW_none, errW_some] <;> rfl)) | (simp [*, errW_none, errW_some] <;> rfl), by repeat (first | (with_reducible first | exact HB.out | apply below_alloc | apply pw_below_drewN | apply below_drew1) | exact HB.out)⟩
                                · replace c60 := Bool.eq_false_iff.mpr c60
                                  subst c60
                                  have H1 : ((abutmentlaw01_lives.f kj44).bind fun t156 => (some t156)) = some r := by rw [if_neg (show ¬ (false = true) by decide)] at H; exact H
                                  clear H
                                  have H := H1
                                  clear H1
                                  replace H := Option.bind_eq_some_iff.mp H
                                  obtain ⟨t156, A770, H⟩ := H
                                  replace H : (some t156) = some r := H
                                  have A77 := Aside0.mk A770
                                  clear A770
                                  obtain rfl := Option.some.inj H
                                  go_wp2_with (first | (go_at_call 30; (with_reducible refine (octet_Token.calls (a0.extract 0 ((ji4) : Int).toNat) false _ A59.out).mono ?_); rintro e w78 ⟨rfl, hb⟩; have n0_ := Aside0.mk (below_step (by repeat (first | (with_reducible first | exact HB.out | apply below_alloc | apply pw_below_drewN | apply below_drew1) | exact HB.out)) hb); clear HB; have HB := n0_; clear n0_; (try clear hb); (try clear hb2); (try clear hk); (try clear hi)) | (go_at_call 28; (with_reducible refine (abutmentlaw01_lives.calls kj44  t156 _ A77.out).mono ?_); rintro e w79 ⟨rfl, hb⟩; have n0_ := Aside0.mk (below_step (by repeat (first | (with_reducible first | exact HB.out | apply below_alloc | apply pw_below_drewN | apply below_drew1) | exact HB.out)) hb); clear HB; have HB := n0_; clear n0_; (try clear hb); (try clear hb2); (try clear hk); (try clear hi)))
                                  repeat (go_quiet (first | (go_at_call 30; (with_reducible refine (octet_Token.calls (a0.extract 0 ((ji4) : Int).toNat) false _ A59.out).mono ?_); rintro e w78 ⟨rfl, hb⟩; have n0_ := Aside0.mk (below_step (by repeat (first | (with_reducible first | exact HB.out | apply below_alloc | apply pw_below_drewN | apply below_drew1) | exact HB.out)) hb); clear HB; have HB := n0_; clear n0_; (try clear hb); (try clear hb2); (try clear hk); (try clear hi)) | (go_at_call 28; (with_reducible refine (abutmentlaw01_lives.calls kj44  t156 _ A77.out).mono ?_); rintro e w79 ⟨rfl, hb⟩; have n0_ := Aside0.mk (below_step (by repeat (first | (with_reducible first | exact HB.out | apply below_alloc | apply pw_below_drewN | apply below_drew1) | exact HB.out)) hb); clear HB; have HB := n0_; clear n0_; (try clear hb); (try clear hb2); (try clear hk); (try clear hi))); try go_wp2_with (first | (go_at_call 30; (with_reducible refine (octet_Token.calls (a0.extract 0 ((ji4) : Int).toNat) false _ A59.out).mono ?_); rintro e w78 ⟨rfl, hb⟩; have n0_ := Aside0.mk (below_step (by repeat (first | (with_reducible first | exact HB.out | apply below_alloc | apply pw_below_drewN | apply below_drew1) | exact HB.out)) hb); clear HB; have HB := n0_; clear n0_; (try clear hb); (try clear hb2); (try clear hk); (try clear hi)) | (go_at_call 28; (with_reducible refine (abutmentlaw01_lives.calls kj44  t156 _ A77.out).mono ?_); rintro e w79 ⟨rfl, hb⟩; have n0_ := Aside0.mk (below_step (by repeat (first | (with_reducible first | exact HB.out | apply below_alloc | apply pw_below_drewN | apply below_drew1) | exact HB.out)) hb); clear HB; have HB := n0_; clear n0_; (try clear hb); (try clear hb2); (try clear hk); (try clear hi))))
                                  go_ret
                                  exact ⟨by first | rfl | (simp [errW_none, errW_some] <;> rfl) | (simp only [← hji4, ← hji7, ← hji10]; first | rfl | (simp [errW_none, errW_some] <;> rfl)) | (simp [*, errW_none, errW_some] <;> rfl), by repeat (first | (with_reducible first | exact HB.out | apply below_alloc | apply pw_below_drewN | apply below_drew1) | exact HB.out)⟩
            · rw [if_neg c12] at H
              exact absurd H (by simp)
          · rw [if_neg c11] at H
            exact absurd H (by simp)
        · rw [if_neg c9] at H
          exact absurd H (by simp)
      · rw [if_neg c8] at H
        exact absurd H (by simp)
    · rw [if_neg c6] at H
      exact absurd H (by simp)
  · rw [if_neg c5] at H
    exact absurd H (by simp)

/-- THE ONE PURE STATEMENT of abutmentlaw01_OctetKeeps: yours. -/
def abutmentlaw01_OctetKeeps.Pure : Prop := ∀ (a0 : ByteArray) (a1 : ByteArray) (a2 : ByteArray), a0.size ≤ 140737488351232 → a1.size ≤ 140737488351232 → a2.size ≤ 140737488351232 → ∃ k, abutmentlaw01_OctetKeeps.f k a0 a1 a2 = some true
theorem abutmentlaw01_OctetKeeps.walk (P : abutmentlaw01_OctetKeeps.Pure) (a0 : ByteArray) (a1 : ByteArray) (a2 : ByteArray) (w : World) (w0 : a0.size ≤ 140737488351232) (w1 : a1.size ≤ 140737488351232) (w2 : a2.size ≤ 140737488351232) :
    Calls Try.prog 6 #[.string a0, .string a1, .string a2] w fun e w' => e = .returned (.bool true) ∧ Below w.heap.size w w' := by
  obtain ⟨k, h⟩ := P a0 a1 a2 w0 w1 w2
  refine (abutmentlaw01_OctetKeeps.calls k a0 a1 a2 true w h).mono ?_
  rintro e w' ⟨rfl, hd⟩
  exact ⟨rfl, hd⟩

end Go.Proofs.Ytbelgmfhaddhmaa.Q
-- mended
