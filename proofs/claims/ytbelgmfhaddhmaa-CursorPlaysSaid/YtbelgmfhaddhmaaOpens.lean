/- Arguments that are slices of structs of two fields, opened. -/
import Derived.Test.YtbelgmfhaddhmaaRows
import Derived.Test.YtbelgmfhaddhmaaExtB
import Derived.WalkKit
import Derived.ProofKit
import Derived.SizedLaws
import Derived.Deep.SlicePairs
namespace Go.Proofs.Ytbelgmfhaddhmaa.Q
open Go.RowKit Go.Proofs.YtbelgmfhaddhmaaW.PrintWords
/-- A slice of calls came in. -/
structure CameA (W : World) (A : Option Addr) (L C : Nat) (l : List (Int × Int)) : Prop where
  len : L = l.length
  cap : l.length ≤ C
  few : l.length ≤ 140737488351232
  oct : ∀ p ∈ l, 0 ≤ p.2 ∧ p.2 ≤ 255
  read : ReadsRow (fun (p : Int × Int) c => c = [.int .i64 p.1, .int .u8 p.2]) 2 W A l.length l
/-- A slice of pairs of texts came in. -/
structure CameS (W : World) (A : Option Addr) (L C : Nat) (l : List (ByteArray × ByteArray)) : Prop where
  len : L = l.length
  cap : l.length ≤ C
  few : l.length ≤ 140737488351232
  read : ReadsRow (fun (p : ByteArray × ByteArray) c => c = [.string p.1, .string p.2]) 2 W A l.length l
end Go.Proofs.Ytbelgmfhaddhmaa.Q
namespace Go.Proofs.Ytbelgmfhaddhmaa.Opens
open Go.ChangeShapes Go.WideShapes Go.ChangeAt Go.RowKit Go.Proofs.YtbelgmfhaddhmaaW.PrintWords Go.Proofs.Ytbelgmfhaddhmaa.Q
set_option linter.unusedVariables false
variable {H : Type} {enc : TypeId × Value → H} {W : World} {base base2 : Nat} {spare : Nat → Bool} {held : Bool}

theorem size54 : Try.prog.bytesOf 54 = 16 := by kernel_rfl
theorem acts52 {ts : List TypeId} {ds : List (DataW H)} (hsz : (DataW.weightsEach Try.prog ts ds).all (· ≤ reachBytes) = true) {j : Nat} {t : TypeId} {r : Reach} {v : Value} {d : DataW H} {p : List MemPlace} (ht : ts[j]? = some t) (hd : ds[j]? = some d) (hu : t = 52) (hv : Value.okWide Try.prog W r base2 t v) (h : DataW.Trod enc Try.prog W base spare held t v d p) :
    ∃ (A : Option Addr) (L C : Nat) (l : List (Int × Int)), v = .slice A L C ∧ CameA W A L C l := by
  subst hu
  obtain ⟨A, L, C, rfl⟩ := okWide_slice Try.underlying52 hv
  obtain ⟨fuel, hf⟩ := h
  rcases Go.Deep.open_slice_pairs Try.underlying52 Try.underlying54 (by kernel_rfl) rfl rfl (by kernel_rfl) (by kernel_rfl) hf with ⟨hcs, hx⟩ | ⟨a, len, cap, m, n, V0, V1, D0, D1, P0, P1, hcs, _, hl, hm, hmm, hx, hcell⟩
  · simp [Value.cells] at hcs
    obtain ⟨rfl, rfl, rfl⟩ := hcs
    exact ⟨none, 0, 0, [], rfl, ⟨rfl, Nat.le_refl _, by simp, by simp, ⟨rfl, by simp, fun h => absurd h (Nat.lt_irrefl 0)⟩⟩⟩
  · simp [Value.cells] at hcs
    obtain ⟨rfl, rfl, rfl⟩ := hcs
    have hle : L ≤ m := by rw [hmm]; split <;> omega
    have hw : L * 16 ≤ 140737488351232 := by
      obtain ⟨hx1, _⟩ := Prod.mk.inj hx
      subst hx1
      have z := sized_slice hsz ht hd Try.underlying52
      rw [size54] at z
      have e1 : (((List.range L).map fun i => (DataW.agg [D0 i, D1 i] : DataW H))).length = L := by simp
      rw [e1] at z
      have : reachBytes = 140737488351232 := rfl
      omega
    have hex : ∀ i, i < L → ∃ q : Int × Int, V0 i = .int .i64 q.1 ∧ V1 i = .int .u8 q.2 ∧ 0 ≤ q.2 ∧ q.2 ≤ 255 := by
      intro i hi
      obtain ⟨_, _, g0, g1⟩ := hcell i (by omega)
      obtain ⟨x, hx0, _, _⟩ := DataW.trod_int Try.underlying3 g0
      obtain ⟨y, hy0, _, hy2⟩ := DataW.trod_int Try.underlying5 g1
      simp at hx0 hy0
      simp [Lit.wf] at hy2
      exact ⟨(x, y), hx0, hy0, hy2.1, hy2.2⟩
    obtain ⟨f, hfx⟩ := Go.Deep.choose_lt hex
    have hlen : ((List.range L).map f).length = L := by simp
    refine ⟨some a, L, C, (List.range L).map f, rfl, ⟨hlen.symm, by rw [hlen]; exact hl, by rw [hlen]; omega, ?_, ?_⟩⟩
    · intro q hq
      rw [List.mem_map] at hq
      obtain ⟨i, hi, rfl⟩ := hq
      exact (hfx i (List.mem_range.1 hi)).2.2
    · refine ⟨rfl, by rw [hlen]; omega, fun _ => ⟨a, rfl, fun j q hq => ?_⟩⟩
      have hj : j < L := by
        have := (List.getElem?_eq_some_iff.1 hq).1
        rwa [hlen] at this
      have e : q = f j := by
        rw [List.getElem?_map, List.getElem?_range hj] at hq
        exact (Option.some.inj hq).symm
      subst e
      obtain ⟨c0, c1, _, _⟩ := hcell j (by omega)
      obtain ⟨e0, e1, _⟩ := hfx j hj
      refine ⟨_, rfl, rfl, fun i u hu => ?_⟩
      match i, hu with
      | 0, hu => simp at hu; subst hu; rw [← e0]; exact c0
      | 1, hu => simp at hu; subst hu; rw [← e1]; exact c1
      | i + 2, hu => simp at hu
end Go.Proofs.Ytbelgmfhaddhmaa.Opens
