/- An argument that is a slice of strings, opened. -/
import Derived.Test.YtabegfdmmjhfdaaRows
import Derived.Test.YtabegfdmmjhfdaaLawFeed
import Derived.WalkKit
import Derived.ProofKit
import Derived.SizedLaws
import Derived.SliceStrings
namespace Go.Proofs.Ytabegfdmmjhfdaa.Opens
open Go.ChangeShapes Go.WideShapes Go.ChangeAt Go.RowKit Go.Proofs.YtabegfdmmjhfdaaW.PrintWords Go.Proofs.Ytabegfdmmjhfdaa.Q
set_option linter.unusedVariables false
variable {H : Type} {enc : TypeId × Value → H} {W : World} {base base2 : Nat} {spare : Nat → Bool} {held : Bool}

theorem bytes9 : Try.prog.bytesOf 9 = 16 := by kernel_rfl
theorem strs22 {ts : List TypeId} {ds : List (DataW H)} (hsz : (DataW.weightsEach Try.prog ts ds).all (· ≤ reachBytes) = true) {j : Nat} {t : TypeId} {r : Reach} {v : Value} {d : DataW H} {p : List MemPlace} (ht : ts[j]? = some t) (hd : ds[j]? = some d) (hu : t = 22) (hv : Value.okWide Try.prog W r base2 t v) (h : DataW.Trod enc Try.prog W base spare held t v d p) :
    ∃ (A : Option Addr) (L C : Nat) (l : List ByteArray), v = .slice A L C ∧ Came W A L C l := by
  subst hu
  obtain ⟨A, L, C, rfl⟩ := okWide_slice Try.underlying22 hv
  obtain ⟨fuel, hf⟩ := h
  rcases open_strings Try.underlying22 Try.underlying9 (by kernel_rfl) hf with ⟨hcs, hx⟩ | ⟨a, len, cap, ss, hcs, _, hl, hm, hss, hx, hcell, hws⟩
  · simp [Value.cells] at hcs
    obtain ⟨rfl, rfl, rfl⟩ := hcs
    exact ⟨none, 0, 0, [], rfl, ⟨rfl, Nat.le_refl _, by simp, Kd.C_nil _ _⟩⟩
  · simp [Value.cells] at hcs
    obtain ⟨rfl, rfl, rfl⟩ := hcs
    have hle : L ≤ ss.length := by rw [hss]; split <;> omega
    have hlen : (ss.take L).length = L := by rw [List.length_take]; omega
    have hw : L * 16 ≤ 140737488351232 := by
      obtain ⟨hx1, _⟩ := Prod.mk.inj hx
      subst hx1
      have z := sized_slice hsz ht hd Try.underlying22
      rw [bytes9] at z
      have e1 : (strs (H := H) (ss.take L)).length = L := by simp [strs]; omega
      rw [e1] at z
      have : reachBytes = 140737488351232 := rfl
      omega
    refine ⟨some a, L, C, ss.take L, rfl, ⟨hlen.symm, by rw [hlen]; exact hl, by rw [hlen]; omega, ?_⟩⟩
    refine Kd.C_of_reads (enc := Value.string) (d := ByteArray.empty) (h1 := fun _ => rfl) ⟨rfl, by rw [hlen]; omega, fun _ => ⟨a, rfl, fun j hj => ?_⟩⟩
    rw [hlen] at hj
    rw [hcell j (by omega)]
    simp [List.getD_eq_getElem?_getD, hj]
end Go.Proofs.Ytabegfdmmjhfdaa.Opens
