/- An argument that is a struct of six ints, opened. -/
import Derived.Test.YthjndgioalehcaaRows
import Derived.WalkKit
import Derived.ProofKit
import Derived.Deep.Fields
import Derived.SizedLaws
namespace Go.Proofs.Ythjndgioalehcaa.Opens
open Go.ChangeShapes Go.WideShapes Go.ChangeAt Go.RowKit Go.Deep
variable {H : Type} {enc : TypeId × Value → H} {P : Program} {w : World} {base : Nat} {spare : Nat → Bool} {held : Bool}

/-- One field of a struct of one-cell fields that is an int. -/
theorem int_field {ti : TypeId} {fs : Array Field} {cs : List Value} {xs : List (DataW H × List MemPlace)} {n : Nat} (hone : oneCellFields P fs = true) (hall : ∀ (i : Nat) (f : Field), fs[i]? = some f → f.type = ti) (hi : P.underlying ti = some (.int .i64)) (hlen : xs.length = fs.size)
    (hg : ∀ (i : Nat) (f : Field), fs[i]? = some f → DataW.trod enc P w base spare held n f.type ((cs.drop f.offset).take (P.cellsOf f.type)) = xs[i]?) (i : Nat) (h : i < fs.size) : ∃ a, (cs.drop i).take 1 = [.int .i64 a] := by
  have hf : fs[i]? = some fs[i] := Array.getElem?_eq_getElem h
  obtain ⟨o, k⟩ := hone_of hone i _ hf
  have := hg i _ hf
  rw [o, k, hall i _ hf, List.getElem?_eq_getElem (by omega)] at this
  obtain ⟨a, he, _⟩ := DataW.trod_int hi this
  exact ⟨a, he⟩
theorem six_ints {r : Reach} {b0 : Nat} {t ti : TypeId} {fs : Array Field} {v : Value} {d : DataW H} {p : List MemPlace} (hs : P.underlying t = some (.struct fs)) (hone : (oneCellFields P fs && (fs.size == 6) && (P.cellsOf t == 6)) = true) (hall : (fs.toList.all fun f => f.type == ti) = true) (hi : P.underlying ti = some (.int .i64))
    (hv : Value.okWide P w r b0 t v) (h : DataW.Trod enc P w base spare held t v d p) : ∃ a b c d e f : Int, v = .agg #[.int .i64 a, .int .i64 b, .int .i64 c, .int .i64 d, .int .i64 e, .int .i64 f] := by
  simp only [Bool.and_eq_true, beq_iff_eq] at hone
  obtain ⟨⟨ho, h6⟩, hC⟩ := hone
  have ha : ∀ (i : Nat) (f : Field), fs[i]? = some f → f.type = ti := by
    intro i f hf
    have := List.all_eq_true.1 hall f (by rw [← Array.getElem?_toList] at hf; exact List.mem_of_getElem? hf)
    exact beq_iff_eq.1 this
  obtain ⟨cs, rfl, hsz⟩ := okWide_struct hs hv
  obtain ⟨l⟩ := cs
  obtain ⟨fuel, hf⟩ := h
  obtain ⟨xs, n, _, _, _, hlen, hg⟩ := DataW.trod_struct hs hf
  have hl : l.length = 6 := hsz.trans hC
  simp only [Value.cells] at hg
  obtain ⟨a, e0⟩ := int_field ho ha hi hlen hg 0 (by omega)
  obtain ⟨b, e1⟩ := int_field ho ha hi hlen hg 1 (by omega)
  obtain ⟨c, e2⟩ := int_field ho ha hi hlen hg 2 (by omega)
  obtain ⟨d, e3⟩ := int_field ho ha hi hlen hg 3 (by omega)
  obtain ⟨e, e4⟩ := int_field ho ha hi hlen hg 4 (by omega)
  obtain ⟨f, e5⟩ := int_field ho ha hi hlen hg 5 (by omega)
  match l, hl with
  | [c0, c1, c2, c3, c4, c5], _ =>
    simp at e0 e1 e2 e3 e4 e5
    subst e0 e1 e2 e3 e4 e5
    exact ⟨a, b, c, d, e, f, rfl⟩
end Go.Proofs.Ythjndgioalehcaa.Opens
