/- What the octet functions come to, as lists of octets. -/
import Derived.Test.YtbelgmfhaddhmaaQ2
import Derived.IntWalk
namespace Go.Proofs.Ytbelgmfhaddhmaa.Pure
open Go.RowKit Go.Proofs.Ytbelgmfhaddhmaa.Q Go.Proofs.YtbelgmfhaddhmaaW.PrintWords Go.Proofs.YtbelgmfhaddhmaaW.PrintLast Go.Proofs.YtbelgmfhaddhmaaW.PrintMore
set_option linter.unusedVariables false

theorem wI (x : Int) (h0 : -9223372036854775808 ≤ x) (h1 : x ≤ 9223372036854775807) : wrap64 x = x := IntWalk.wrap64_in x ⟨h0, h1⟩
theorem bytesOf_cut (s : ByteArray) (a b : Nat) : bytesOf (s.extract a b) = ((bytesOf s).drop a).take (b - a) := by
  unfold bytesOf
  rw [Lib.extract_data, List.map_take, List.map_drop]
theorem bytesOf_append (a b : ByteArray) : bytesOf (a ++ b) = bytesOf a ++ bytesOf b := by
  unfold bytesOf
  rw [← List.map_append, ByteArray.data_append, Array.toList_append]
theorem strOf_bytesOf (s : ByteArray) : strOfNums (bytesOf s) = s := by
  obtain ⟨⟨l⟩⟩ := s
  simp [strOfNums, bytesOf]
  have h : ((fun n : Int => UInt8.ofNat n.toNat) ∘ fun b : UInt8 => (b.toNat : Int)) = id := by funext b; simp
  rw [h, List.map_id]
theorem str_ext {s t : ByteArray} (h : bytesOf s = bytesOf t) : s = t := by rw [← strOf_bytesOf s, h, strOf_bytesOf]
theorem bytesOf_strOf (l : List Int) (h : ∀ x ∈ l, 0 ≤ x ∧ x ≤ 255) : bytesOf (strOfNums l) = l := by
  simp only [strOfNums, bytesOf, List.map_map]
  refine (List.map_congr_left (g := id) (fun x hx => ?_)).trans (List.map_id l)
  have ha := h x hx
  show ((UInt8.ofNat x.toNat).toNat : Int) = x
  rw [UInt8.toNat_ofNat']; omega
theorem bytes_in (s : ByteArray) : ∀ x ∈ bytesOf s, 0 ≤ x ∧ x ≤ 255 := by
  intro x hx
  simp only [bytesOf, List.mem_map] at hx
  obtain ⟨b, _, rfl⟩ := hx
  have := b.toNat_lt
  omega
theorem low_in (x : Int) (h : 0 ≤ x ∧ x ≤ 255) : 0 ≤ lowI x ∧ lowI x ≤ 255 := by
  unfold lowI; repeat' split
  all_goals omega
theorem low_low (x : Int) : lowI (lowI x) = lowI x := by
  unfold lowI; repeat' split
  all_goals omega
/-- A text with small letters. -/
def lowS (s : ByteArray) : ByteArray := strOfNums ((bytesOf s).map lowI)
theorem lowS_bytes (s : ByteArray) : bytesOf (lowS s) = (bytesOf s).map lowI := by
  refine bytesOf_strOf _ (fun x hx => ?_)
  simp only [List.mem_map] at hx
  obtain ⟨y, hy, rfl⟩ := hx
  exact low_in y (bytes_in s y hy)
theorem lowS_size (s : ByteArray) : (lowS s).size = s.size := by rw [← bytesOf_length, lowS_bytes, List.length_map, bytesOf_length]
theorem toList_iff (s t : ByteArray) : s.toList = t.toList ↔ bytesOf s = bytesOf t := by
  constructor
  · intro h; rw [Lib.toList_data, Lib.toList_data] at h; unfold bytesOf; rw [h]
  · intro h; rw [str_ext h]
theorem bt_nat (s : ByteArray) (i : Nat) (h : i < s.size) : bt s (i : Int) = (bytesOf s)[i]'(by rw [bytesOf_length]; exact h) := by
  rw [← rd_bytesOf, rd, Int.toNat_natCast, List.getD_eq_getElem?_getD, List.getElem?_eq_getElem (by rw [bytesOf_length]; exact h)]; rfl
theorem drop_at (s : ByteArray) (i : Nat) (h : i < s.size) : (bytesOf s).drop i = bt s (i : Int) :: (bytesOf s).drop (i + 1) := by
  rw [bt_nat s i h, List.drop_eq_getElem_cons (by rw [bytesOf_length]; exact h)]
theorem drop_over (s : ByteArray) (i : Nat) (h : s.size ≤ i) : (bytesOf s).drop i = [] := List.drop_eq_nil_of_le (by rw [bytesOf_length]; exact h)

/-! ### the classes -/
set_option maxRecDepth 100000 in
theorem tchar_all : ∀ n : Fin 256, abutmentref01_Tchar.f 20 (n.val : Int) = some (tcI (n.val : Int)) := by decide +kernel
theorem tchar_ev (c : Int) (h : 0 ≤ c ∧ c ≤ 255) : Ev (fun k => abutmentref01_Tchar.f k c) (tcI c) := by
  refine Ev.of (fun k => abutmentref01_Tchar.mono c k) (k := 20) ?_
  have := tchar_all ⟨c.toNat, by omega⟩
  rwa [show (((⟨c.toNat, by omega⟩ : Fin 256).val : Nat) : Int) = c by show ((c.toNat : Nat) : Int) = c; omega] at this
set_option maxRecDepth 100000 in
theorem lives_ev : Ev (fun k => abutmentlaw01_lives.f k) true := by
  refine Ev.of (fun k => abutmentlaw01_lives.mono k) (k := 20) ?_
  decide +kernel
theorem ne_size (s : ByteArray) : decide ((s.size : Int) > 0) = !(bytesOf s).isEmpty := by
  have h := bytesOf_length s
  cases hb : bytesOf s with
  | nil => rw [hb] at h; simp at h; simp [← h]
  | cons a b => rw [hb] at h; simp at h; simp; omega
theorem token_l0 (s : ByteArray) (hs : s.size ≤ 140737488351232) : ∀ n i : Nat, i ≤ s.size → s.size - i = n → Ev (fun k => abutmentref01_Token.l0 k s (i : Int)) (((bytesOf s).drop i).all tcI && !(bytesOf s).isEmpty) := by
  intro n
  induction n with
  | zero =>
    intro i hi hn
    rw [drop_over s i (by omega), List.all_nil, Bool.true_and, ← ne_size]
    refine Ev.step (f := fun _ => some (decide ((s.size : Int) > 0))) (fun k => ?_) (Ev.now _)
    simp only [abutmentref01_Token.l0]; rw [if_neg (by omega)]
  | succ n ih =>
    intro i hi hn
    have hb := bt_range s (i : Int)
    refine Ev.step (f := fun k => (abutmentref01_Tchar.f k (bt s (i : Int))).bind fun t => if t = true then abutmentref01_Token.l0 k s ((i + 1 : Nat) : Int) else some false) (fun k => ?_) (Ev.bind (tchar_ev _ hb) ?_)
    · simp only [abutmentref01_Token.l0]
      rw [if_pos (by omega), if_pos (by omega), wI _ (by omega) (by omega)]
      rfl
    · rw [drop_at s i (by omega), List.all_cons]
      cases tcI (bt s (i : Int)) with
      | true => simp only [if_true, Bool.true_and]; exact ih (i + 1) (by omega) (by omega)
      | false => exact Ev.now _
theorem token_ev (s : ByteArray) (hs : s.size ≤ 140737488351232) : Ev (fun k => abutmentref01_Token.f k s) (tokenI s) := by
  have h := token_l0 s hs _ 0 (by omega) rfl
  rw [List.drop_zero, Bool.and_comm] at h
  exact h
theorem visible_l0 (s : ByteArray) (hs : s.size ≤ 140737488351232) : ∀ n i : Nat, i ≤ s.size → s.size - i = n → Ev (fun k => abutmentref01_Visible.l0 k s (i : Int)) (((bytesOf s).drop i).all viI && !(bytesOf s).isEmpty) := by
  intro n
  induction n with
  | zero =>
    intro i hi hn
    rw [drop_over s i (by omega), List.all_nil, Bool.true_and, ← ne_size]
    refine Ev.step (f := fun _ => some (decide ((s.size : Int) > 0))) (fun k => ?_) (Ev.now _)
    simp only [abutmentref01_Visible.l0]; rw [if_neg (by omega)]
  | succ n ih =>
    intro i hi hn
    rw [drop_at s i (by omega), List.all_cons]
    by_cases h : 32 < bt s (i : Int) ∧ bt s (i : Int) < 127
    · rw [show viI (bt s (i : Int)) = true by simp [viI, h], Bool.true_and]
      refine Ev.step (f := fun k => abutmentref01_Visible.l0 k s ((i + 1 : Nat) : Int)) (fun k => ?_) (ih (i + 1) (by omega) (by omega))
      simp only [abutmentref01_Visible.l0]
      rw [if_pos (by omega), if_pos (by omega), if_neg (by omega), if_neg (by omega), wI _ (by omega) (by omega)]
      rfl
    · rw [show viI (bt s (i : Int)) = false by simp only [viI, Bool.and_eq_false_iff, decide_eq_false_iff_not]; omega, Bool.false_and, Bool.false_and]
      refine Ev.step (f := fun _ => some false) (fun k => ?_) (Ev.now _)
      simp only [abutmentref01_Visible.l0]
      rw [if_pos (by omega), if_pos (by omega)]
      by_cases h1 : bt s (i : Int) < 33
      · rw [if_pos h1]
      · rw [if_neg h1, if_pos (by omega)]
theorem visible_ev (s : ByteArray) (hs : s.size ≤ 140737488351232) : Ev (fun k => abutmentref01_Visible.f k s) (visibleI s) := by
  have h := visible_l0 s hs _ 0 (by omega) rfl
  rw [List.drop_zero, Bool.and_comm] at h
  exact h
theorem value_l0 (s : ByteArray) (hs : s.size ≤ 140737488351232) : ∀ n i : Nat, i ≤ s.size → s.size - i = n → Ev (fun k => abutmentref01_Value.l0 k s (i : Int)) (((bytesOf s).drop i).all vaI) := by
  intro n
  induction n with
  | zero =>
    intro i hi hn
    rw [drop_over s i (by omega), List.all_nil]
    refine Ev.step (f := fun _ => some true) (fun k => ?_) (Ev.now _)
    simp only [abutmentref01_Value.l0]; rw [if_neg (by omega)]
  | succ n ih =>
    intro i hi hn
    rw [drop_at s i (by omega), List.all_cons]
    by_cases h : bt s (i : Int) = 9 ∨ (32 ≤ bt s (i : Int) ∧ bt s (i : Int) ≠ 127)
    · rw [show vaI (bt s (i : Int)) = true by simp [vaI, h], Bool.true_and]
      refine Ev.step (f := fun k => abutmentref01_Value.l0 k s ((i + 1 : Nat) : Int)) (fun k => ?_) (ih (i + 1) (by omega) (by omega))
      simp only [abutmentref01_Value.l0]
      rw [if_pos (by omega), if_pos (by omega)]
      by_cases h9 : bt s (i : Int) = 9
      · rw [if_pos h9, if_neg (by omega), wI _ (by omega) (by omega)]; rfl
      · rw [if_neg h9, if_neg (by omega), if_neg (by omega), wI _ (by omega) (by omega)]; rfl
    · rw [show vaI (bt s (i : Int)) = false by simp [vaI]; omega, Bool.false_and]
      refine Ev.step (f := fun _ => some false) (fun k => ?_) (Ev.now _)
      simp only [abutmentref01_Value.l0]
      rw [if_pos (by omega), if_pos (by omega), if_neg (by omega)]
      by_cases h1 : bt s (i : Int) < 32
      · rw [if_pos h1]
      · rw [if_neg h1, if_pos (by omega)]
theorem value_ev (s : ByteArray) (hs : s.size ≤ 140737488351232) : Ev (fun k => abutmentref01_Value.f k s) (valueI s) := by
  have h := value_l0 s hs _ 0 (by omega) rfl
  rw [List.drop_zero] at h
  exact h
theorem mn_min (a : Nat) : mn (a : Int) 3000 = ((min a 3000 : Nat) : Int) := by unfold mn; split <;> omega
/-- A text cut to 3,000 octets. -/
def cut3 (s : ByteArray) : ByteArray := s.extract 0 (min s.size 3000)
theorem cut3_size (s : ByteArray) : (cut3 s).size ≤ 3000 := by rw [cut3, ByteArray.size_extract]; omega
end Go.Proofs.Ytbelgmfhaddhmaa.Pure
