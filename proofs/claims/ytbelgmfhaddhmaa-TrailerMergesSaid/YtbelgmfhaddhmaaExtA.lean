/- The contracts of package octet: tchar, Tchar, all, Token, Value, Visible. -/
import Derived.Test.YtbelgmfhaddhmaaProg
import Derived.WalkKit
import Derived.WalkSpells
import Derived.WalkLawsBesides
import Derived.KernelRfl
import Derived.Lib.Hide
import Derived.Lib.OthersKept
import Derived.Lib.DecodeN
import Derived.Lib.IndexBytes
import Derived.Deep.LoopGhost
import Derived.IntWalk
import Derived.Test.YtbelgmfhaddhmaaWWords
namespace Go.Proofs.Ytbelgmfhaddhmaa.Q
open Go.RowKit Go.Proofs.YtbelgmfhaddhmaaW.PrintWords
set_option linter.unusedVariables false

def marksS : ByteArray := ⟨#[33, 35, 36, 37, 38, 39, 42, 43, 45, 46, 94, 95, 96, 124, 126]⟩
def marksL : List Int := [33, 35, 36, 37, 38, 39, 42, 43, 45, 46, 94, 95, 96, 124, 126]
theorem marks_is : bytesOf marksS = marksL := by decide
def markB (r : Int) : Bool := marksL.contains r
/-- May a rune, or an octet, stand in a token? -/
def tcI (r : Int) : Bool := (decide (97 ≤ r) && decide (r ≤ 122)) || (decide (65 ≤ r) && decide (r ≤ 90)) || (decide (48 ≤ r) && decide (r ≤ 57)) || markB r
theorem below_iter {w : World} (s : ByteArray) (pos : Nat) : Below w.heap.size w (w.iter s pos) := below_alloc (Below.refl _ _) _
theorem mark_at (pos : Nat) (h : pos < marksS.size) : ((marksS[pos]'h).toNat : Int) = marksL.getD pos 0 := by
  rw [← marks_is]
  unfold bytesOf
  have h' : pos < marksS.data.toList.length := by rw [data_length]; exact h
  simp [List.getD_eq_getElem?_getD, List.getElem?_eq_getElem h']
  rfl
theorem mark_small (pos : Nat) (h : pos < marksS.size) : (marksS[pos]'h).toNat < 128 := by
  have h1 := mark_at pos h
  have h2 : ∀ x ∈ marksL, x < 128 := by decide
  have h3 : pos < marksL.length := h
  have := h2 (marksL.getD pos 0) (by rw [List.getD_eq_getElem?_getD, List.getElem?_eq_getElem h3]; simp)
  omega
theorem marks_no {r : Int} {pos : Nat} (h : ∀ j, j < pos → marksL.getD j 0 ≠ r) (hp : 15 ≤ pos) : markB r = false := by
  rw [markB, Bool.eq_false_iff]
  intro hc
  rw [List.contains_iff_mem] at hc
  obtain ⟨j, hj, he⟩ := List.getElem_of_mem hc
  have : j < 15 := hj
  exact h j (by omega) (by rw [List.getD_eq_getElem?_getD, List.getElem?_eq_getElem hj]; exact he)
theorem marks_yes {r : Int} {pos : Nat} (hp : pos < 15) (h : marksL.getD pos 0 = r) : markB r = true := by
  rw [markB, List.contains_iff_mem, ← h, List.getD_eq_getElem?_getD, List.getElem?_eq_getElem (show pos < marksL.length from hp)]
  simp

set_option maxHeartbeats 2000000 in
set_option maxRecDepth 100000 in
theorem tchar_a (r : Int) (w : World) (h : r < 48) (HT : Hid (tcI r = markB r)) : Calls Try.prog 80 #[.int .i32 r] w fun e w' => e = .returned (.bool (tcI r)) ∧ Below w.heap.size w w' := by
  rw [HT.out]
  go_enter Try.func80, Try.ntmps80
  go_wp2
  go_loopg [] 15 (fun k wr => ∃ pos : Nat, Aside0 (wr = w.iter marksS pos) ∧ Aside0 (15 - pos ≤ k) ∧ Aside0 (∀ j, j < pos → marksL.getD j 0 ≠ r))
  case atStart => exact ⟨0, ⟨rfl⟩, ⟨by omega⟩, ⟨fun j hj => by omega⟩⟩
  case round =>
    obtain ⟨pos, HW, HK, HN⟩ := hrel
    have hw := HW.out
    subst hw
    have hk := HK.out
    by_cases hp : pos < marksS.size
    · have hp15 : pos < 15 := hp
      have hnx : ∀ ty, (Instr.next (.pointer (some ⟨w.heap.size, 0, none⟩)) true ty).run Try.prog (w.iter marksS pos) = .ok (.tuple #[.bool true, .int .i64 pos, .int .i32 (marksS[pos]'hp).toNat]) (w.iter marksS (pos + 1)) := fun ty => run_next_ascii w marksS pos ty hp (mark_small pos hp)
      rw [mark_at pos hp] at hnx
      obtain ⟨m, hm⟩ : ∃ m, m = marksL.getD pos 0 := ⟨_, rfl⟩
      rw [← hm] at hnx
      have HM := Lib.hid hm
      clear hm
      by_cases he : m = r
      · have he0 : (m == r) = true := beq_iff_eq.mpr he
        have HE := Lib.hid he
        clear he
        go_wp2
        go_ret
        exact ⟨by rw [marks_yes hp15 (HM.out.symm.trans HE.out)]; rfl, below_iter _ _⟩
      · have he0 : (m == r) = false := beq_eq_false_iff_ne.mpr he
        have HE := Lib.hid he
        clear he
        go_wp2
        go_roundg (gk - 1)
        case measure => omega
        case rel =>
          refine ⟨pos + 1, ⟨rfl⟩, ⟨by omega⟩, ⟨fun j hj => ?_⟩⟩
          by_cases hjp : j < pos
          · exact HN.out j hjp
          · obtain rfl : j = pos := by omega
            rw [← HM.out]; exact HE.out
    · have hp15 : 15 ≤ pos := by have : marksS.size = 15 := rfl; omega
      have hnx : ∀ ty, (Instr.next (.pointer (some ⟨w.heap.size, 0, none⟩)) true ty).run Try.prog (w.iter marksS pos) = _ := fun ty => run_next_end w marksS pos ty hp
      go_wp2
      go_ret
      exact ⟨by rw [marks_no HN.out hp15]; rfl, below_iter _ _⟩

set_option maxHeartbeats 2000000 in
set_option maxRecDepth 100000 in
theorem tchar_b (r : Int) (w : World) (h : 57 < r) (h' : r < 65) (HT : Hid (tcI r = markB r)) : Calls Try.prog 80 #[.int .i32 r] w fun e w' => e = .returned (.bool (tcI r)) ∧ Below w.heap.size w w' := by
  rw [HT.out]
  go_enter Try.func80, Try.ntmps80
  go_wp2
  go_loopg [] 15 (fun k wr => ∃ pos : Nat, Aside0 (wr = w.iter marksS pos) ∧ Aside0 (15 - pos ≤ k) ∧ Aside0 (∀ j, j < pos → marksL.getD j 0 ≠ r))
  case atStart => exact ⟨0, ⟨rfl⟩, ⟨by omega⟩, ⟨fun j hj => by omega⟩⟩
  case round =>
    obtain ⟨pos, HW, HK, HN⟩ := hrel
    have hw := HW.out
    subst hw
    have hk := HK.out
    by_cases hp : pos < marksS.size
    · have hp15 : pos < 15 := hp
      have hnx : ∀ ty, (Instr.next (.pointer (some ⟨w.heap.size, 0, none⟩)) true ty).run Try.prog (w.iter marksS pos) = .ok (.tuple #[.bool true, .int .i64 pos, .int .i32 (marksS[pos]'hp).toNat]) (w.iter marksS (pos + 1)) := fun ty => run_next_ascii w marksS pos ty hp (mark_small pos hp)
      rw [mark_at pos hp] at hnx
      obtain ⟨m, hm⟩ : ∃ m, m = marksL.getD pos 0 := ⟨_, rfl⟩
      rw [← hm] at hnx
      have HM := Lib.hid hm
      clear hm
      by_cases he : m = r
      · have he0 : (m == r) = true := beq_iff_eq.mpr he
        have HE := Lib.hid he
        clear he
        go_wp2
        go_ret
        exact ⟨by rw [marks_yes hp15 (HM.out.symm.trans HE.out)]; rfl, below_iter _ _⟩
      · have he0 : (m == r) = false := beq_eq_false_iff_ne.mpr he
        have HE := Lib.hid he
        clear he
        go_wp2
        go_roundg (gk - 1)
        case measure => omega
        case rel =>
          refine ⟨pos + 1, ⟨rfl⟩, ⟨by omega⟩, ⟨fun j hj => ?_⟩⟩
          by_cases hjp : j < pos
          · exact HN.out j hjp
          · obtain rfl : j = pos := by omega
            rw [← HM.out]; exact HE.out
    · have hp15 : 15 ≤ pos := by have : marksS.size = 15 := rfl; omega
      have hnx : ∀ ty, (Instr.next (.pointer (some ⟨w.heap.size, 0, none⟩)) true ty).run Try.prog (w.iter marksS pos) = _ := fun ty => run_next_end w marksS pos ty hp
      go_wp2
      go_ret
      exact ⟨by rw [marks_no HN.out hp15]; rfl, below_iter _ _⟩

set_option maxHeartbeats 2000000 in
set_option maxRecDepth 100000 in
theorem tchar_c (r : Int) (w : World) (h : 90 < r) (h' : r < 97) (HT : Hid (tcI r = markB r)) : Calls Try.prog 80 #[.int .i32 r] w fun e w' => e = .returned (.bool (tcI r)) ∧ Below w.heap.size w w' := by
  rw [HT.out]
  go_enter Try.func80, Try.ntmps80
  go_wp2
  go_loopg [] 15 (fun k wr => ∃ pos : Nat, Aside0 (wr = w.iter marksS pos) ∧ Aside0 (15 - pos ≤ k) ∧ Aside0 (∀ j, j < pos → marksL.getD j 0 ≠ r))
  case atStart => exact ⟨0, ⟨rfl⟩, ⟨by omega⟩, ⟨fun j hj => by omega⟩⟩
  case round =>
    obtain ⟨pos, HW, HK, HN⟩ := hrel
    have hw := HW.out
    subst hw
    have hk := HK.out
    by_cases hp : pos < marksS.size
    · have hp15 : pos < 15 := hp
      have hnx : ∀ ty, (Instr.next (.pointer (some ⟨w.heap.size, 0, none⟩)) true ty).run Try.prog (w.iter marksS pos) = .ok (.tuple #[.bool true, .int .i64 pos, .int .i32 (marksS[pos]'hp).toNat]) (w.iter marksS (pos + 1)) := fun ty => run_next_ascii w marksS pos ty hp (mark_small pos hp)
      rw [mark_at pos hp] at hnx
      obtain ⟨m, hm⟩ : ∃ m, m = marksL.getD pos 0 := ⟨_, rfl⟩
      rw [← hm] at hnx
      have HM := Lib.hid hm
      clear hm
      by_cases he : m = r
      · have he0 : (m == r) = true := beq_iff_eq.mpr he
        have HE := Lib.hid he
        clear he
        go_wp2
        go_ret
        exact ⟨by rw [marks_yes hp15 (HM.out.symm.trans HE.out)]; rfl, below_iter _ _⟩
      · have he0 : (m == r) = false := beq_eq_false_iff_ne.mpr he
        have HE := Lib.hid he
        clear he
        go_wp2
        go_roundg (gk - 1)
        case measure => omega
        case rel =>
          refine ⟨pos + 1, ⟨rfl⟩, ⟨by omega⟩, ⟨fun j hj => ?_⟩⟩
          by_cases hjp : j < pos
          · exact HN.out j hjp
          · obtain rfl : j = pos := by omega
            rw [← HM.out]; exact HE.out
    · have hp15 : 15 ≤ pos := by have : marksS.size = 15 := rfl; omega
      have hnx : ∀ ty, (Instr.next (.pointer (some ⟨w.heap.size, 0, none⟩)) true ty).run Try.prog (w.iter marksS pos) = _ := fun ty => run_next_end w marksS pos ty hp
      go_wp2
      go_ret
      exact ⟨by rw [marks_no HN.out hp15]; rfl, below_iter _ _⟩

set_option maxHeartbeats 2000000 in
set_option maxRecDepth 100000 in
theorem tchar_d (r : Int) (w : World) (h : 122 < r) (HT : Hid (tcI r = markB r)) : Calls Try.prog 80 #[.int .i32 r] w fun e w' => e = .returned (.bool (tcI r)) ∧ Below w.heap.size w w' := by
  rw [HT.out]
  go_enter Try.func80, Try.ntmps80
  go_wp2
  go_loopg [] 15 (fun k wr => ∃ pos : Nat, Aside0 (wr = w.iter marksS pos) ∧ Aside0 (15 - pos ≤ k) ∧ Aside0 (∀ j, j < pos → marksL.getD j 0 ≠ r))
  case atStart => exact ⟨0, ⟨rfl⟩, ⟨by omega⟩, ⟨fun j hj => by omega⟩⟩
  case round =>
    obtain ⟨pos, HW, HK, HN⟩ := hrel
    have hw := HW.out
    subst hw
    have hk := HK.out
    by_cases hp : pos < marksS.size
    · have hp15 : pos < 15 := hp
      have hnx : ∀ ty, (Instr.next (.pointer (some ⟨w.heap.size, 0, none⟩)) true ty).run Try.prog (w.iter marksS pos) = .ok (.tuple #[.bool true, .int .i64 pos, .int .i32 (marksS[pos]'hp).toNat]) (w.iter marksS (pos + 1)) := fun ty => run_next_ascii w marksS pos ty hp (mark_small pos hp)
      rw [mark_at pos hp] at hnx
      obtain ⟨m, hm⟩ : ∃ m, m = marksL.getD pos 0 := ⟨_, rfl⟩
      rw [← hm] at hnx
      have HM := Lib.hid hm
      clear hm
      by_cases he : m = r
      · have he0 : (m == r) = true := beq_iff_eq.mpr he
        have HE := Lib.hid he
        clear he
        go_wp2
        go_ret
        exact ⟨by rw [marks_yes hp15 (HM.out.symm.trans HE.out)]; rfl, below_iter _ _⟩
      · have he0 : (m == r) = false := beq_eq_false_iff_ne.mpr he
        have HE := Lib.hid he
        clear he
        go_wp2
        go_roundg (gk - 1)
        case measure => omega
        case rel =>
          refine ⟨pos + 1, ⟨rfl⟩, ⟨by omega⟩, ⟨fun j hj => ?_⟩⟩
          by_cases hjp : j < pos
          · exact HN.out j hjp
          · obtain rfl : j = pos := by omega
            rw [← HM.out]; exact HE.out
    · have hp15 : 15 ≤ pos := by have : marksS.size = 15 := rfl; omega
      have hnx : ∀ ty, (Instr.next (.pointer (some ⟨w.heap.size, 0, none⟩)) true ty).run Try.prog (w.iter marksS pos) = _ := fun ty => run_next_end w marksS pos ty hp
      go_wp2
      go_ret
      exact ⟨by rw [marks_no HN.out hp15]; rfl, below_iter _ _⟩

set_option maxHeartbeats 2000000 in
theorem tchar_any (r : Int) (w : World) : Calls Try.prog 80 #[.int .i32 r] w fun e w' => e = .returned (.bool (tcI r)) ∧ Below w.heap.size w w' := by
  by_cases h1 : 97 ≤ r ∧ r ≤ 122
  · obtain ⟨h1, h1'⟩ := h1
    have ht : tcI r = true := by simp [tcI, h1, h1']
    rw [ht]
    clear ht
    go_enter Try.func80, Try.ntmps80
    go_wp2
    go_ret
    exact ⟨rfl, Below.refl _ _⟩
  · by_cases h2 : 65 ≤ r ∧ r ≤ 90
    · obtain ⟨h2, h2'⟩ := h2
      have h1 : ¬ 97 ≤ r := by omega
      have ht : tcI r = true := by simp [tcI, h2, h2']
      rw [ht]
      clear ht
      go_enter Try.func80, Try.ntmps80
      go_wp2
      go_ret
      exact ⟨rfl, Below.refl _ _⟩
    · by_cases h3 : 48 ≤ r ∧ r ≤ 57
      · obtain ⟨h3, h3'⟩ := h3
        have h1 : ¬ 97 ≤ r := by omega
        have h2 : ¬ 65 ≤ r := by omega
        have ht : tcI r = true := by simp [tcI, h3, h3']
        rw [ht]
        clear ht
        go_enter Try.func80, Try.ntmps80
        go_wp2
        go_ret
        exact ⟨rfl, Below.refl _ _⟩
      · have ht : tcI r = markB r := by
          have e1 : (decide (97 ≤ r) && decide (r ≤ 122)) = false := by rw [Bool.eq_false_iff]; simp; omega
          have e2 : (decide (65 ≤ r) && decide (r ≤ 90)) = false := by rw [Bool.eq_false_iff]; simp; omega
          have e3 : (decide (48 ≤ r) && decide (r ≤ 57)) = false := by rw [Bool.eq_false_iff]; simp; omega
          rw [tcI, e1, e2, e3]; rfl
        by_cases g1 : r < 48
        · exact tchar_a r w g1 ht
        · by_cases g2 : r < 65
          · exact tchar_b r w (by omega) g2 ht
          · by_cases g3 : r < 97
            · exact tchar_c r w (by omega) g3 ht
            · exact tchar_d r w (by omega) ht
end Go.Proofs.Ytbelgmfhaddhmaa.Q
