/- The plain laws of chunk's lines and sizes. -/
import Derived.Test.YtbelgmfhaddhmaaC4
import Derived.Test.YtbelgmfhaddhmaaC5
import Derived.Test.YtbelgmfhaddhmaaExtT
namespace Go.Proofs.Ytbelgmfhaddhmaa.Pure
open Go.RowKit Go.Proofs.Ytbelgmfhaddhmaa.Q Go.Proofs.Ytbelgmfhaddhmaa.C Go.Proofs.YtbelgmfhaddhmaaW.PrintWords Go.Proofs.YtbelgmfhaddhmaaW.PrintLast Go.Proofs.YtbelgmfhaddhmaaW.PrintMore
set_option linter.unusedVariables false
theorem evc_pos {α : Type} {c : Prop} [Decidable c] {a b : Nat → Option α} {r : α} (h : c) (k : Ev a r) : Ev (fun n => if c then a n else b n) r := Ev.congr (fun n => if_pos h) k
theorem evc_neg {α : Type} {c : Prop} [Decidable c] {a b : Nat → Option α} {r : α} (h : ¬ c) (k : Ev b r) : Ev (fun n => if c then a n else b n) r := Ev.congr (fun n => if_neg h) k
/-! ### Line -/
def lineS (n : Int) : ByteArray := if n < 0 then ⟨#[]⟩ else strOfNums (figsL n.toNat) ++ (⟨#[13, 10]⟩ : ByteArray)
theorem figs_size (n : Nat) : (strOfNums (figsL n)).size = (figsL n).length := by rw [← bytesOf_length, figs_bytes]
theorem line_f (n : Int) (h : n ≤ 9223372036854775807) : chunk_Line.f n = some (lineS n) := by
  unfold chunk_Line.f lineS
  by_cases h0 : n < 0
  · rw [if_pos h0, if_pos h0]
  · have hl := figs_len n.toNat
    have hz := figs_size n.toNat
    rw [if_neg h0, if_neg h0, digits_HexText.f, if_neg h0, digits_figures.f, if_pos ⟨by omega, h, rfl⟩]
    simp only [Option.bind_some]
    rw [if_pos (by omega)]
theorem rline_f (n : Int) (h : n ≤ 9223372036854775807) : abutmentref14_Line.f n = some (lineS n) := by
  unfold abutmentref14_Line.f lineS
  by_cases h0 : n < 0
  · rw [if_pos h0, if_pos h0]
  · have hl := figs_len n.toNat
    have hz := figs_size n.toNat
    have e : IntKind.u64.wrap n = n := u64_in _ (by omega) (by omega)
    rw [if_neg h0, if_neg h0, abutmentref02_HexText.f, if_neg h0, e, abutmentref02_Digits.f, if_pos ⟨by omega, by omega, rfl⟩]
    simp only [Option.bind_some]
    rw [if_pos (by omega)]
/-! ### Sizes -/
theorem szF_len : ∀ (f n e : Nat), (szF f n e).length ≤ f + 1 := by
  intro f
  induction f with
  | zero => intro n e; exact Nat.le_refl _
  | succ f ih =>
    intro n e
    rw [szF]
    split
    · rw [List.length_cons]; have := ih (n - e) e; omega
    · simp
theorem mn_int (a b : Nat) : mn (a : Int) (b : Int) = ((min a b : Nat) : Int) := by unfold mn; split <;> omega
theorem rsizes_l0 (e : Nat) (he : 1 ≤ e) : ∀ (f n : Nat) (acc : List Int), n ≤ f → n ≤ 1048576 → acc.length + n ≤ 1048576 → 1 ≤ n → Ev (fun k => abutmentref14_Sizes.l0 k (n : Int) (e : Int) acc) (acc ++ szF f n e) := by
  have fin : ∀ acc : List Int, Ev (fun k => abutmentref14_Sizes.l0 k ((0 : Nat) : Int) (e : Int) acc) acc := by
    intro acc
    refine Ev.step (f := fun _ => some acc) (fun k => ?_) (Ev.now _)
    simp only [abutmentref14_Sizes.l0]
    rw [if_neg (by omega)]
  intro f
  induction f with
  | zero => intro n acc h1 _ _ h2; omega
  | succ f ih =>
    intro n acc h1 h2 h3 h4
    rw [szF]
    have hm := mn_int n e
    by_cases c : e < n
    · have em : mn (n : Int) (e : Int) = (e : Int) := by rw [hm]; omega
      have e1 : wrap64 ((n : Int) - (e : Int)) = ((n - e : Nat) : Int) := by rw [wI _ (by omega) (by omega)]; omega
      rw [if_pos c]
      have := ih (n - e) (acc ++ [(e : Int)]) (by omega) (by omega) (by rw [List.length_append, List.length_singleton]; omega) (by omega)
      rw [List.append_assoc] at this
      refine Ev.step (f := fun k => abutmentref14_Sizes.l0 k ((n - e : Nat) : Int) (e : Int) (acc ++ [(e : Int)])) (fun k => ?_) this
      simp only [abutmentref14_Sizes.l0, em, e1]
      rw [if_pos (by omega), if_pos (by omega)]
    · have em : mn (n : Int) (e : Int) = (n : Int) := by rw [hm]; omega
      have e1 : wrap64 ((n : Int) - (n : Int)) = ((0 : Nat) : Int) := by rw [wI _ (by omega) (by omega)]; omega
      rw [if_neg c]
      refine Ev.step (f := fun k => abutmentref14_Sizes.l0 k ((0 : Nat) : Int) (e : Int) (acc ++ [(n : Int)])) (fun k => ?_) (fin _)
      simp only [abutmentref14_Sizes.l0, em, e1]
      rw [if_pos (by omega), if_pos (by omega)]
theorem rsizes_ev (n e : Int) : Ev (fun k => abutmentref14_Sizes.f k n e) (szP n e) := by
  have none_ : Ev (fun k => abutmentref14_Sizes.j0 k n e [] true) [] := by
    refine Ev.step (f := fun _ => some []) (fun k => ?_) (Ev.now _)
    simp only [abutmentref14_Sizes.j0]
    rw [if_pos trivial]
  unfold abutmentref14_Sizes.f szP
  simp only [Option.bind_some]
  by_cases h1 : n < 1
  · rw [if_pos (.inl h1)]; exact evc_pos h1 none_
  · by_cases h2 : n > 1048576
    · rw [if_pos (.inr (.inl h2))]; exact evc_neg h1 (evc_pos h2 none_)
    · refine evc_neg h1 (evc_neg h2 ?_)
      by_cases h3 : e < 1
      · rw [if_pos (.inr (.inr h3)), decide_eq_true h3]; exact none_
      · rw [if_neg (by omega), decide_eq_false h3]
        have := rsizes_l0 e.toNat (by omega) n.toNat n.toNat [] (Nat.le_refl _) (by omega) (by simp; omega) (by omega)
        rw [Int.toNat_of_nonneg (by omega), Int.toNat_of_nonneg (by omega), List.nil_append] at this
        refine Ev.step (f := fun k => abutmentref14_Sizes.l0 k n e []) (fun k => ?_) this
        simp only [abutmentref14_Sizes.j0]
        rw [if_neg (by decide)]
theorem szP_len (n e : Int) : (szP n e).length ≤ 1048577 := by
  unfold szP
  split
  · exact Nat.zero_le _
  · have := szF_len n.toNat n.toNat e.toNat
    omega
theorem sizes_f (n e : Int) (h : e ≤ 9223372036854775807) : chunk_Sizes.f n e = some (szP n e) := by rw [chunk_Sizes.f, if_pos h]
theorem sameI_l0 (l : List Int) (hl : l.length ≤ 2000000) : ∀ n i : Nat, l.length - i = n → i ≤ l.length → Ev (fun k => abutmentref01_SameInts.l0 k l l (i : Int)) true := by
  intro n
  induction n with
  | zero =>
    intro i hn hi
    refine Ev.step (f := fun _ => some true) (fun k => ?_) (Ev.now _)
    simp only [abutmentref01_SameInts.l0]; rw [if_neg (by omega)]
  | succ n ih =>
    intro i hn hi
    refine Ev.step (f := fun k => abutmentref01_SameInts.l0 k l l ((i + 1 : Nat) : Int)) (fun k => ?_) (ih (i + 1) (by omega) (by omega))
    simp only [abutmentref01_SameInts.l0]
    rw [if_pos (by omega), if_pos (by omega), if_pos (by omega), if_pos trivial, wI _ (by omega) (by omega)]
    rfl
theorem sameI_ev (l : List Int) (hl : l.length ≤ 2000000) : Ev (fun k => abutmentref01_SameInts.f k l l) true := by
  refine Ev.congr (f := fun k => abutmentref01_SameInts.l0 k l l ((0 : Nat) : Int)) (fun k => ?_) (sameI_l0 l hl _ 0 rfl (Nat.zero_le _))
  unfold abutmentref01_SameInts.f
  rw [if_pos rfl]; rfl
theorem lives14_ev : Ev (fun k => abutmentlaw14_lives.f k) true := by
  refine Ev.of (k := 10) (fun k => abutmentlaw14_lives.mono k) ?_
  decide +kernel
end Go.Proofs.Ytbelgmfhaddhmaa.Pure
