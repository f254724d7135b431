/- Plain facts on lines: the reference's reading against octet by octet. -/
import Derived.Test.YtabegfdmmjhfdaaExtD
namespace Go.Proofs.Ytabegfdmmjhfdaa.Q
open Go.RowKit Go.Proofs.YtabegfdmmjhfdaaW.PrintWords
open Go.Proofs.Ytabegfdmmjhfdaa.Plain
set_option linter.unusedVariables false

theorem bytesOf_cut (s : ByteArray) (a b : Nat) : bytesOf (s.extract a b) = ((bytesOf s).drop a).take (b - a) := by
  unfold bytesOf
  rw [Lib.extract_data, List.map_take, List.map_drop]
theorem strOf_bytesOf (s : ByteArray) : strOfNums (bytesOf s) = s := by
  obtain ⟨⟨l⟩⟩ := s
  simp [strOfNums, bytesOf]
  have h : ((fun n : Int => UInt8.ofNat n.toNat) ∘ fun b : UInt8 => (b.toNat : Int)) = id := by funext b; simp
  rw [h, List.map_id]
theorem bytesOf_snoc (s : ByteArray) (a i : Nat) (ha : a ≤ i) (h : i < s.size) : bytesOf (s.extract a (i + 1)) = bytesOf (s.extract a i) ++ [((s[i]'h).toNat : Int)] := by
  rw [bytesOf_cut, bytesOf_cut, show i + 1 - a = (i - a) + 1 by omega, List.take_add_one]
  congr 1
  rw [List.getElem?_drop, show a + (i - a) = i by omega]
  have : (bytesOf s)[i]? = some ((s[i]'h).toNat : Int) := by
    have h' : i < s.data.toList.length := by rw [data_length]; exact h
    simp [bytesOf, List.getElem?_eq_getElem h']
    rfl
  rw [this]; rfl
theorem bytesOf_none (s : ByteArray) (a : Nat) : bytesOf (s.extract a a) = [] := by rw [bytesOf_cut, Nat.sub_self]; rfl
/-- Where the reference's loop stands. -/
structure RdAt (T : List ByteArray × St) (s : ByteArray) (most : Int) (i f : Nat) (out : List ByteArray) (st : St) : Prop where
  tot : run ((bytesOf s).drop i) (out, st) = T
  left : st.left = most - i
  spent : st.spent = i
  e0 : st.e = 0
  wh : st.whole = false
  fi : f ≤ i
  is : i ≤ s.size
  within : st.within = decide (f < i)
  turn : st.turn = true ↔ (f < i ∧ ∃ h : i - 1 < s.size, ((s[i - 1]'h).toNat : Int) = 13)
  line : st.line = bytesOf (s.extract f (if st.turn = true then i - 1 else i))
  cnt : out.length ≤ i
section
variable {T : List ByteArray × St} {s : ByteArray} {most : Int} {i f : Nat} {out : List ByteArray} {st : St}
theorem RdAt.begin (s : ByteArray) (most : Int) : RdAt (run (bytesOf s) ([], fresh most)) s most 0 0 [] (fresh most) :=
  ⟨rfl, by simp [fresh], rfl, rfl, rfl, by omega, by omega, rfl, ⟨fun h => by simp [fresh] at h, fun h => by omega⟩, by rw [show (if (fresh most).turn = true then 0 - 1 else 0) = 0 from rfl, bytesOf_none]; rfl, by simp⟩
theorem RdAt.over (h : RdAt T s most i f out st) (hi : i = s.size) : T = (out, st) := by
  have := h.tot
  rw [List.drop_eq_nil_of_le (by rw [bytesOf_length]; omega)] at this
  exact this.symm
theorem RdAt.cons (h : RdAt T s most i f out st) (hi : i < s.size) : run (((s[i]'hi).toNat : Int) :: (bytesOf s).drop (i + 1)) (out, st) = T := by
  rw [← bytesOf_drop s i hi]; exact h.tot
theorem RdAt.err (h : RdAt T s most i f out st) (hi : i < s.size) (er : Int) (hs : see st ((s[i]'hi).toNat : Int) = (st, er)) (h0 : er ≠ 0) : T = (out, { st with e := er }) := by
  rw [← h.cons hi, run, if_neg (by simp [h.e0]), hs, if_pos h0]
theorem RdAt.long (h : RdAt T s most i f out st) (hi : i < s.size) (hm : (i : Int) = most) : T = (out, { st with e := 4 }) :=
  h.err hi 4 (see_left (by rw [h.left]; omega) _) (by decide)
theorem RdAt.bad (h : RdAt T s most i f out st) (hi : i < s.size) (hm : (i : Int) ≠ most) (hb : st.turn ≠ (((s[i]'hi).toNat : Int) == 10)) : T = (out, { st with e := 8 }) :=
  h.err hi 8 (see_bad (by rw [h.left]; omega) hb) (by decide)
theorem RdAt.lf (h : RdAt T s most i f out st) (hi : i < s.size) (hm : (i : Int) ≠ most) (ht : st.turn = true) (hc : ((s[i]'hi).toNat : Int) = 10) :
    f ≤ i - 1 ∧ RdAt T s most (i + 1) (i + 1) (out ++ [s.extract f (i - 1)]) { st.step with turn := false, whole := false, line := [], within := false } := by
  have hl := h.line
  rw [if_pos ht] at hl
  have hft := h.turn.1 ht
  have hc2 := h.cons hi
  rw [hc, run, if_neg (by simp [h.e0]), see_lf (by rw [h.left]; omega) ht] at hc2
  simp only [ne_eq, not_true_eq_false, if_false, if_true] at hc2
  have e1 : strOfNums ({ st.step with turn := false, whole := true, within := false } : St).line = s.extract f (i - 1) := by
    show strOfNums st.line = _
    rw [hl, strOf_bytesOf]
  rw [e1] at hc2
  refine ⟨by omega, ⟨hc2, ?_, ?_, h.e0, rfl, by omega, by omega, by simp, ⟨fun h => by simp at h, fun h => by omega⟩, ?_, ?_⟩⟩
  · show st.left - 1 = _; rw [h.left]; omega
  · show st.spent + 1 = _; rw [h.spent]; omega
  · show [] = _; rw [if_neg (by simp), bytesOf_none]
  · have := h.cnt; simp; omega
theorem RdAt.cr (h : RdAt T s most i f out st) (hi : i < s.size) (hm : (i : Int) ≠ most) (ht : st.turn = false) (hc : ((s[i]'hi).toNat : Int) = 13) :
    RdAt T s most (i + 1) f out { st.step with turn := true, within := true } := by
  have hl := h.line
  rw [if_neg (by simp [ht])] at hl
  have hfi := h.fi
  have hc2 := h.cons hi
  rw [hc, run, if_neg (by simp [h.e0]), see_cr (by rw [h.left]; omega) ht] at hc2
  simp only [ne_eq, not_true_eq_false, if_false] at hc2
  rw [if_neg (show ¬ ({ st.step with turn := true, within := true } : St).whole = true from by show ¬ st.whole = true; simp [h.wh])] at hc2
  refine ⟨hc2, ?_, ?_, h.e0, h.wh, by omega, by omega, ?_, ⟨fun _ => ⟨by omega, hi, hc⟩, fun _ => rfl⟩, ?_, ?_⟩
  · show st.left - 1 = _; rw [h.left]; omega
  · show st.spent + 1 = _; rw [h.spent]; omega
  · show true = _; rw [decide_eq_true (by omega)]
  · show st.line = _; rw [if_pos rfl, hl]; rfl
  · have := h.cnt; omega
theorem RdAt.oct (h : RdAt T s most i f out st) (hi : i < s.size) (hm : (i : Int) ≠ most) (ht : st.turn = false) (hc : ((s[i]'hi).toNat : Int) ≠ 13) (hc2 : ((s[i]'hi).toNat : Int) ≠ 10) :
    RdAt T s most (i + 1) f out { st.step with line := st.line ++ [((s[i]'hi).toNat : Int)], within := true } := by
  have hl := h.line
  rw [if_neg (by simp [ht])] at hl
  have hfi := h.fi
  have hc3 := h.cons hi
  rw [run, if_neg (by simp [h.e0]), see_oct (by rw [h.left]; omega) ht hc hc2] at hc3
  simp only [ne_eq, not_true_eq_false, if_false] at hc3
  rw [if_neg (show ¬ ({ st.step with line := st.line ++ [((s[i]'hi).toNat : Int)], within := true } : St).whole = true from by show ¬ st.whole = true; simp [h.wh])] at hc3
  refine ⟨hc3, ?_, ?_, h.e0, h.wh, by omega, by omega, ?_, ⟨fun h2 => ?_, fun h2 => ?_⟩, ?_, ?_⟩
  · show st.left - 1 = _; rw [h.left]; omega
  · show st.spent + 1 = _; rw [h.spent]; omega
  · show true = _; rw [decide_eq_true (by omega)]
  · have : st.turn = true := h2
    rw [ht] at this; cases this
  · obtain ⟨_, h3, h4⟩ := h2
    exact absurd h4 hc
  · show st.line ++ _ = _
    have e : (if ({ st.step with line := st.line ++ [((s[i]'hi).toNat : Int)], within := true } : St).turn = true then i + 1 - 1 else i + 1) = i + 1 := if_neg (by show ¬ st.turn = true; simp [ht])
    rw [e, hl, bytesOf_snoc s f i hfi hi]
  · have := h.cnt; omega
end
end Go.Proofs.Ytabegfdmmjhfdaa.Q
