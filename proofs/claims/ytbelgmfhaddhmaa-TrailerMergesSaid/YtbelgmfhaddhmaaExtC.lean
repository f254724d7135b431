/- The contract of octet.Lower. -/
import Derived.Test.YtbelgmfhaddhmaaExtB
namespace Go.Proofs.Ytbelgmfhaddhmaa.Q
open Go.RowKit Go.Proofs.YtbelgmfhaddhmaaW.PrintWords
set_option linter.unusedVariables false
/-- A letter made small. -/
def lowI (x : Int) : Int := if x ≥ 65 then (if x ≤ 90 then x + 32 else x) else x
set_option maxHeartbeats 400000 in
theorem low_any (x : Int) (h0 : 0 ≤ x) (h1 : x ≤ 255) (w : World) : Calls Try.prog 74 #[.int .u8 x] w fun e w' => e = .returned (.int .u8 (lowI x)) ∧ Below w.heap.size w w' := by
  by_cases h : x ≥ 65
  · by_cases h2 : x ≤ 90
    · have e : lowI x = x + 97 - 65 := by rw [lowI, if_pos h, if_pos h2]; omega
      rw [e]
      clear e
      go_enter Try.func74, Try.ntmps74
      go_wp2
      go_ret
      exact ⟨rfl, Below.refl _ _⟩
    · have e : lowI x = x := by rw [lowI, if_pos h, if_neg h2]
      rw [e]
      clear e
      go_enter Try.func74, Try.ntmps74
      go_wp2
      go_ret
      exact ⟨rfl, Below.refl _ _⟩
  · have e : lowI x = x := by rw [lowI, if_neg h]
    rw [e]
    clear e h0 h1
    go_enter Try.func74, Try.ntmps74
    go_wp2
    go_ret
    exact ⟨rfl, Below.refl _ _⟩
/-- Block g of W holds the octets xs, and may be written. -/
def Oct (W : World) (g n : Nat) (xs : List Int) : Prop := xs.length = n ∧ ∃ (cs : Array Value) (m : Nat), W.heap[g]? = some (.cells cs 5 (m, m + 1)) ∧ n ≤ m ∧ cs.size = m ∧ ∀ j, j < n → cs[j]? = some (.int .u8 (xs.getD j 0))
theorem Oct.at_ {W : World} {g n : Nat} {xs : List Int} (h : Oct W g n xs) (j : Nat) (hj : j < n) : W.cell? ⟨g, j, none⟩ = some (.int .u8 (xs.getD j 0)) ∧ W.frozen? ⟨g, j, none⟩ = false := by
  obtain ⟨hl, cs, m, hg, hm, hs, hc⟩ := h
  refine ⟨(cell_of_row W g j cs 5 _ hg).trans (hc j hj), ?_⟩
  simp [World.frozen?, hg]
  omega
theorem Oct.below {W W1 : World} {g n : Nat} {xs : List Int} (h : Oct W g n xs) (hb : Below W.heap.size W W1) : Oct W1 g n xs := by
  obtain ⟨hl, cs, m, hg, hr⟩ := h
  exact ⟨hl, cs, m, (hb.block g (blk_lt hg)).trans hg, hr⟩
theorem Oct.set {W : World} {g n : Nat} {xs : List Int} (h : Oct W g n xs) (i : Nat) (x : Int) (hi : i < n) : Oct (W.setCell ⟨g, i, none⟩ (.int .u8 x)) g n (xs.set i x) := by
  obtain ⟨hl, cs, m, hg, hm, hs, hc⟩ := h
  refine ⟨by rw [List.length_set]; exact hl, cs.setIfInBounds i (.int .u8 x), m, by simp [World.setCell, Array.getElem?_modify, hg], hm, by rw [Array.size_setIfInBounds]; exact hs, fun j hj => ?_⟩
  by_cases e : i = j
  · subst e
    rw [Array.getElem?_setIfInBounds_self]
    rw [if_pos (by omega)]
    simp [List.getD_eq_getElem?_getD, hl, hi]
  · rw [Array.getElem?_setIfInBounds_ne e, hc j hj]
    simp [List.getD_eq_getElem?_getD, List.getElem?_set_ne e]
theorem Oct.reads {W : World} {g n : Nat} {xs : List Int} (h : Oct W g n xs) (hn : n ≤ 9223372036854775807) : ReadsInt W .u8 (some ⟨g, 0, none⟩) n xs := by
  refine ⟨h.1, hn, fun _ => ⟨_, rfl, fun j hj => ?_⟩⟩
  rw [add_plain]; exact (h.at_ j hj).1
theorem Oct.new (W : World) (s : ByteArray) : Oct (Lib.bytesWorld W 5 s) W.heap.size s.size (bytesOf s) := by
  refine ⟨bytesOf_length s, _, _, Lib.bytesWorld_at_new W 5 s, ?_, rfl, fun j hj => ?_⟩
  · simp only [Lib.bytesCells, Array.size_append, Array.size_map]; show s.size ≤ s.size + _; omega
  · have h := Lib.bytesWorld_cell W 5 s j hj
    rw [cell_of_row _ _ j _ 5 _ (Lib.bytesWorld_at_new W 5 s)] at h
    rw [h]
    have h' : j < s.data.toList.length := by rw [data_length]; exact hj
    simp [bytesOf, List.getD_eq_getElem?_getD, List.getElem?_eq_getElem h']
/-- The octets made small up to i. -/
def lowTo (xs : List Int) (i : Nat) : List Int := (xs.take i).map lowI ++ xs.drop i
theorem lowTo_zero (xs : List Int) : lowTo xs 0 = xs := by simp [lowTo]
theorem lowTo_at (xs : List Int) (i : Nat) (h : i < xs.length) : (lowTo xs i).getD i 0 = xs.getD i 0 := by
  simp [lowTo, List.getD_eq_getElem?_getD, List.getElem?_append, Nat.min_eq_left (Nat.le_of_lt h)]
theorem lowTo_set (xs : List Int) (i : Nat) (h : i < xs.length) : (lowTo xs i).set i (lowI (xs.getD i 0)) = lowTo xs (i + 1) := by
  have e1 : ((xs.take i).map lowI).length = i := by simp; omega
  unfold lowTo
  rw [List.set_append_right _ _ (by omega), e1, Nat.sub_self, List.drop_eq_getElem_cons h, List.set_cons_zero, List.take_succ_eq_append_getElem h]
  have e2 : xs.getD i 0 = xs[i] := by simp [List.getD_eq_getElem?_getD, h]
  rw [e2, List.map_append, List.append_assoc]
  rfl
theorem lowTo_over (xs : List Int) (i : Nat) (h : xs.length ≤ i) : lowTo xs i = xs.map lowI := by
  unfold lowTo
  rw [List.take_of_length_le h, List.drop_eq_nil_of_le h, List.append_nil]
def octet_Lower.f (a0 : ByteArray) : Option (ByteArray) := if a0.size ≤ 9223372036854775807 then some (strOfNums ((bytesOf a0).map lowI)) else none
theorem bytesOf_bounds (s : ByteArray) (j : Nat) : 0 ≤ (bytesOf s).getD j 0 ∧ (bytesOf s).getD j 0 ≤ 255 := by
  have e := rd_bytesOf s (j : Int)
  have b := bt_range s (j : Int)
  rw [← e] at b
  exact b
set_option maxHeartbeats 2000000 in
set_option maxRecDepth 100000 in
theorem octet_Lower.calls (a0 : ByteArray) (r : ByteArray) (w : World) (h : octet_Lower.f a0 = some r) : Calls Try.prog 23 #[.string a0] w fun e w' => e = .returned (.string r) ∧ Below w.heap.size w w' := by
  unfold octet_Lower.f at h
  split at h
  · rename_i hn
    obtain rfl := Option.some.inj h
    clear h
    obtain ⟨k0, hk0⟩ : ∃ k0, k0 = w.heap.size := ⟨_, rfl⟩
    have HK0 := Lib.hid hk0
    have kb := fun W => print_bytes (P := Try.prog) 9 73 5 Try.underlying9 Try.underlying73 Try.underlying5 a0 W
    go_enter Try.func23, Try.ntmps23
    go_wp2
    rw [← HK0.out]
    clear hk0
    go_loopg [10] a0.size (fun k v wr => ∃ i : Nat, v = .int .i64 (i : Int) ∧ Aside0 (i ≤ a0.size) ∧ Aside0 (a0.size - i ≤ k) ∧ Aside0 (Oct wr k0 a0.size (lowTo (bytesOf a0) i)) ∧ Aside0 (Below w.heap.size w wr))
    case atStart => exact ⟨0, rfl, ⟨Nat.zero_le _⟩, ⟨Nat.le_refl _⟩, ⟨by rw [HK0.out, lowTo_zero]; exact Oct.new w a0⟩, ⟨bytes_below (Below.refl _ _) (Nat.le_refl _) 5 a0⟩⟩
    case round =>
      obtain ⟨i, rfl, HI, HK, HO, HB⟩ := hrel
      have hki := HK.out
      have hia := HI.out
      by_cases hlt : i < a0.size
      · have hlt2 : (i : Int) < (a0.size : Int) := by omega
        have hlen := bytesOf_length a0
        have hc0 := (HO.out.at_ i hlt).1
        rw [lowTo_at _ _ (by omega)] at hc0
        obtain ⟨hb0, hb1⟩ := bytesOf_bounds a0 i
        clear hlen
        go_wp2_with fail
        refine (low_any _ hb0 hb1 _).mono ?_
        rintro e w1 ⟨rfl, hb⟩
        have HO2 := Aside0.mk (HO.out.below hb)
        have HB2 := Aside0.mk (below_step HB.out hb)
        have hc2 : w1.cell? ⟨k0, i, none⟩ = some (.int .u8 ((lowTo (bytesOf a0) i).getD i 0)) := (HO2.out.at_ i hlt).1
        have hf2 : w1.frozen? ⟨k0, i, none⟩ = false := (HO2.out.at_ i hlt).2
        clear hb hc0
        go_wp2
        go_roundg (gk - 1)
        case measure => omega
        case rel =>
          refine ⟨i + 1, ?_, ⟨by omega⟩, ⟨by omega⟩, ?_, ?_⟩
          · rfl
          · rw [← lowTo_set _ _ (by rw [bytesOf_length]; exact hlt)]
            exact ⟨HO2.out.set i _ hlt⟩
          · exact ⟨HB2.out.setCell (by rw [HK0.out]; exact Nat.le_refl _) _⟩
      · have hlt2 : ¬ (i : Int) < (a0.size : Int) := by omega
        obtain rfl : i = a0.size := by omega
        have hs : ∀ c, (convert 73 9 (.slice (some ⟨k0, 0, none⟩) a0.size c)).run Try.prog wr = _ := fun c => string_of_reads (n := a0.size) (c := c) Try.underlying73 Try.underlying5 Try.underlying9 (HO.out.reads hn)
        have HF := Lib.hid (lowTo_over (bytesOf a0) a0.size (by rw [bytesOf_length]; exact Nat.le_refl _))
        go_wp2
        go_ret
        exact ⟨by rw [HF.out]; rfl, HB.out⟩
  · cases h
end Go.Proofs.Ytbelgmfhaddhmaa.Q
