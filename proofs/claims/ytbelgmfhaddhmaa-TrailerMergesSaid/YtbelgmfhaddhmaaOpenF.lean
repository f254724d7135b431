/- Arguments that are slices of structs of two texts, opened. -/
import Derived.Test.YtbelgmfhaddhmaaRows
import Derived.Test.YtbelgmfhaddhmaaT0
import Derived.WalkKit
import Derived.ProofKit
import Derived.SizedLaws
import Derived.Deep.SlicePairs
namespace Go.Proofs.Ytbelgmfhaddhmaa.T
open Go.RowKit Go.Proofs.YtbelgmfhaddhmaaW.PrintWords
/-- A slice of pairs of texts came in. -/
structure Came44 (W : World) (A : Option Addr) (L C : Nat) (l : List S44) : Prop where
  len : L = l.length
  cap : l.length ≤ C
  few : l.length ≤ 140737488351232
  read : Kd.C k44 W A l.length l
end Go.Proofs.Ytbelgmfhaddhmaa.T
namespace Go.Proofs.Ytbelgmfhaddhmaa.Opens
open Go.ChangeShapes Go.WideShapes Go.ChangeAt Go.RowKit Go.Proofs.YtbelgmfhaddhmaaW.PrintWords Go.Proofs.Ytbelgmfhaddhmaa.T
set_option linter.unusedVariables false
instance : Inhabited S44 := ⟨z44⟩
variable {H : Type} {enc : TypeId × Value → H} {W : World} {base base2 : Nat} {spare : Nat → Bool} {held : Bool}

theorem size44 : Try.prog.bytesOf 44 = 32 := by kernel_rfl
theorem pairs37 {ts : List TypeId} {ds : List (DataW H)} (hsz : (DataW.weightsEach Try.prog ts ds).all (· ≤ reachBytes) = true) {j : Nat} {t : TypeId} {r : Reach} {v : Value} {d : DataW H} {p : List MemPlace} (ht : ts[j]? = some t) (hd : ds[j]? = some d) (hu : t = 37) (hv : Value.okWide Try.prog W r base2 t v) (h : DataW.Trod enc Try.prog W base spare held t v d p) :
    ∃ (A : Option Addr) (L C : Nat) (l : List S44), v = .slice A L C ∧ Came44 W A L C l := by
  subst hu
  obtain ⟨A, L, C, rfl⟩ := okWide_slice Try.underlying37 hv
  obtain ⟨fuel, hf⟩ := h
  rcases Go.Deep.open_slice_pairs Try.underlying37 Try.underlying44 (by kernel_rfl) rfl rfl (by kernel_rfl) (by kernel_rfl) hf with ⟨hcs, hx⟩ | ⟨a, len, cap, m, n, V0, V1, D0, D1, P0, P1, hcs, _, hl, hm, hmm, hx, hcell⟩
  · simp [Value.cells] at hcs
    obtain ⟨rfl, rfl, rfl⟩ := hcs
    exact ⟨none, 0, 0, [], rfl, ⟨rfl, Nat.le_refl _, by simp, Kd.C_nil _ _⟩⟩
  · simp [Value.cells] at hcs
    obtain ⟨rfl, rfl, rfl⟩ := hcs
    have hle : L ≤ m := by rw [hmm]; split <;> omega
    have hw : L * 32 ≤ 140737488351232 := by
      obtain ⟨hx1, _⟩ := Prod.mk.inj hx
      subst hx1
      have z := sized_slice hsz ht hd Try.underlying37
      rw [size44] at z
      have e1 : (((List.range L).map fun i => (DataW.agg [D0 i, D1 i] : DataW H))).length = L := by simp
      rw [e1] at z
      have : reachBytes = 140737488351232 := rfl
      omega
    have hex : ∀ i, i < L → ∃ q : S44, V0 i = .string q.f0 ∧ V1 i = .string q.f1 := by
      intro i hi
      obtain ⟨_, _, g0, g1⟩ := hcell i (by omega)
      obtain ⟨x, hx0, _, _⟩ := DataW.trod_string Try.underlying9 g0
      obtain ⟨y, hy0, _, _⟩ := DataW.trod_string Try.underlying9 g1
      simp at hx0 hy0
      exact ⟨⟨x, y⟩, hx0, hy0⟩
    obtain ⟨f, hfx⟩ := Go.Deep.choose_lt hex
    have hlen : ((List.range L).map f).length = L := by simp
    refine ⟨some a, L, C, (List.range L).map f, rfl, ⟨hlen.symm, by rw [hlen]; exact hl, by rw [hlen]; omega, ?_⟩⟩
    refine ⟨rfl, by rw [hlen]; omega, fun _ => ⟨a, rfl, fun j q hq => ?_⟩⟩
    have hj : j < L := by
      have := (List.getElem?_eq_some_iff.1 hq).1
      rwa [hlen] at this
    have e : q = f j := by
      rw [List.getElem?_map, List.getElem?_range hj] at hq
      exact (Option.some.inj hq).symm
    subst e
    obtain ⟨c0, c1, _, _⟩ := hcell j (by omega)
    obtain ⟨e0, e1⟩ := hfx j hj
    refine ⟨[.string (f j).f0, .string (f j).f1], rfl, k44_mk W (f j), fun i u hu => ?_⟩
    match i, hu with
    | 0, hu => simp at hu; subst hu; rw [← e0]; exact c0
    | 1, hu => simp at hu; subst hu; rw [← e1]; exact c1
    | i + 2, hu => simp at hu
end Go.Proofs.Ytbelgmfhaddhmaa.Opens
