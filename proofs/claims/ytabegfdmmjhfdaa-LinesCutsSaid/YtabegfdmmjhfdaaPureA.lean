/- What the reference's reading, the joining and the comparing come to. -/
import Derived.Test.YtabegfdmmjhfdaaS1
import Derived.Test.YtabegfdmmjhfdaaExtD
import Derived.IntWalk
namespace Go.Proofs.Ytabegfdmmjhfdaa.Pure
open Go.RowKit Go.Proofs.Ytabegfdmmjhfdaa.S Go.Proofs.YtabegfdmmjhfdaaW.PrintWords Go.Proofs.YtabegfdmmjhfdaaW.PrintLast Go.Proofs.YtabegfdmmjhfdaaW.PrintMore
open Plain Q
set_option linter.unusedVariables false

theorem wI (x : Int) (h0 : -9223372036854775808 ≤ x) (h1 : x ≤ 9223372036854775807) : wrap64 x = x := IntWalk.wrap64_in x ⟨h0, h1⟩
theorem rdOf_at (l : List ByteArray) (i : Nat) (h : i < l.length) : rdOf ByteArray.empty l (i : Int) = l[i] := by
  simp [rdOf, List.getD_eq_getElem?_getD, List.getElem?_eq_getElem h]
/-- Two lists that are one are the same. -/
theorem same_l0 (l : List ByteArray) (hl : l.length ≤ 140737488351232) : ∀ (n i : Nat), i ≤ l.length → l.length - i = n → Ev (fun k => abutmentref01_Same.l0 k l l (i : Int)) true := by
  intro n
  induction n with
  | zero =>
    intro i hi hn
    refine Ev.step (f := fun _ => some true) (fun k => ?_) (Ev.now _)
    simp only [abutmentref01_Same.l0]; rw [if_neg (by omega)]
  | succ n ih =>
    intro i hi hn
    refine Ev.step (f := fun k => abutmentref01_Same.l0 k l l ((i + 1 : Nat) : Int)) (fun k => ?_) (ih (i + 1) (by omega) (by omega))
    simp only [abutmentref01_Same.l0]
    rw [if_pos (by omega), if_pos (by omega), if_pos (by omega), if_pos trivial, wI _ (by omega) (by omega)]
    rfl
theorem same_ev (l : List ByteArray) (hl : l.length ≤ 140737488351232) : Ev (fun k => abutmentref01_Same.f k l l) true := by
  refine Ev.congr (f := fun k => abutmentref01_Same.l0 k l l ((0 : Nat) : Int)) (fun k => ?_) (same_l0 l hl _ 0 (by omega) rfl)
  unfold abutmentref01_Same.f; rw [if_pos rfl]; rfl
theorem bytesOf_append (a b : ByteArray) : bytesOf (a ++ b) = bytesOf a ++ bytesOf b := by
  unfold bytesOf
  rw [← List.map_append, ByteArray.data_append, Array.toList_append]
/-- Joined: some texts as one, or they are too long. -/
structure Joined (parts : List ByteArray) (acc : ByteArray) (i : Nat) (r : ByteArray × Bool) : Prop where
  yes : r.2 = true → bytesOf r.1 = bytesOf acc ++ cat (parts.drop i) ∧ (i < parts.length → parts.length ≤ 200) ∧ r.1.size ≤ 4000
theorem joined_l0 (parts : List ByteArray) (hl : parts.length ≤ 140737488351232) : ∀ (n i : Nat) (acc : ByteArray), i ≤ parts.length → parts.length - i = n → acc.size ≤ 4000 →
    ∃ r, Ev (fun k => abutmentlaw16_joined.l0 k acc parts (parts.length : Int) (i : Int)) r ∧ Joined parts acc i r := by
  intro n
  induction n with
  | zero =>
    intro i acc hi hn ha
    refine ⟨(acc, true), Ev.step (f := fun _ => some (acc, true)) (fun k => ?_) (Ev.now _), ⟨fun _ => ⟨?_, fun h => by omega, ha⟩⟩⟩
    · simp only [abutmentlaw16_joined.l0]; rw [if_neg (by omega)]
    · rw [List.drop_eq_nil_of_le (by omega)]; simp [cat]
  | succ n ih =>
    intro i acc hi hn ha
    have hlt : i < parts.length := by omega
    by_cases c1 : i ≥ 200
    · refine ⟨(⟨#[]⟩, false), Ev.step (f := fun _ => some (⟨#[]⟩, false)) (fun k => ?_) (Ev.now _), ⟨fun h => by simp at h⟩⟩
      simp only [abutmentlaw16_joined.l0]
      rw [if_pos (by omega), if_pos (by omega), if_pos (by omega), if_pos (by omega)]
    · by_cases c2 : parts[i].size > 2000
      · refine ⟨(⟨#[]⟩, false), Ev.step (f := fun _ => some (⟨#[]⟩, false)) (fun k => ?_) (Ev.now _), ⟨fun h => by simp at h⟩⟩
        simp only [abutmentlaw16_joined.l0, rdOf_at parts i hlt]
        rw [if_pos (by omega), if_pos (by omega), if_pos (by omega), if_neg (by omega), if_pos (by omega)]
      · by_cases c3 : acc.size > 2000
        · refine ⟨(⟨#[]⟩, false), Ev.step (f := fun _ => some (⟨#[]⟩, false)) (fun k => ?_) (Ev.now _), ⟨fun h => by simp at h⟩⟩
          simp only [abutmentlaw16_joined.l0, rdOf_at parts i hlt]
          rw [if_pos (by omega), if_pos (by omega), if_pos (by omega), if_neg (by omega), if_neg (by omega), if_pos (by omega)]
        · obtain ⟨r, hr, hj⟩ := ih (i + 1) (acc ++ parts[i]) (by omega) (by omega) (by rw [ByteArray.size_append]; omega)
          refine ⟨r, Ev.step (f := fun k => abutmentlaw16_joined.l0 k (acc ++ parts[i]) parts (parts.length : Int) ((i + 1 : Nat) : Int)) (fun k => ?_) hr, ⟨fun h => ?_⟩⟩
          · simp only [abutmentlaw16_joined.l0, rdOf_at parts i hlt]
            rw [if_pos (by omega), if_pos (by omega), if_pos (by omega), if_neg (by omega), if_neg (by omega), if_neg (by omega), if_pos (by omega), wI _ (by omega) (by omega)]
            rfl
          · obtain ⟨h1, h2, h3⟩ := hj.yes h
            refine ⟨?_, fun _ => ?_, h3⟩
            · rw [h1, bytesOf_append, cat_drop parts i hlt, List.append_assoc]
            · by_cases c : i + 1 < parts.length
              · exact h2 c
              · omega
theorem joined_ev (parts : List ByteArray) (hl : parts.length ≤ 140737488351232) : ∃ s ok, Ev (fun k => abutmentlaw16_joined.f k parts) (s, ok) ∧ (ok = true → bytesOf s = cat parts ∧ parts.length ≤ 200 ∧ s.size ≤ 4000) := by
  obtain ⟨⟨s, ok⟩, hr, hj⟩ := joined_l0 parts hl _ 0 ⟨#[]⟩ (by omega) rfl (by decide)
  refine ⟨s, ok, hr, fun h => ?_⟩
  obtain ⟨h1, h2, h3⟩ := hj.yes h
  refine ⟨by simpa [bytesOf] using h1, ?_, h3⟩
  by_cases c : 0 < parts.length
  · exact h2 c
  · omega
end Go.Proofs.Ytabegfdmmjhfdaa.Pure
