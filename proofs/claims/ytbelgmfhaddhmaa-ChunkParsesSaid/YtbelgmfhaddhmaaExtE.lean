/- The contracts of the cursor's methods: Byte, Skip, Token, Until; of a cursor that is none. -/
import Derived.Test.YtbelgmfhaddhmaaExtD
namespace Go.Proofs.Ytbelgmfhaddhmaa.Q
open Go.RowKit Go.Proofs.YtbelgmfhaddhmaaW.PrintWords
set_option linter.unusedVariables false

theorem upto_size (L : ByteArray) (k : Nat) (h : k ≤ L.size) : (upto L k).size = k := by rw [upto, ByteArray.size_extract]; omega
set_option maxHeartbeats 1000000 in
theorem byte_yes (w : World) (g : Nat) (L : ByteArray) (b : Int) (h : CurL w g L) (h0 : 0 < L.size) (hb0 : bt L 0 = b) : Calls Try.prog 54 #[.pointer (some ⟨g, 0, none⟩), .int .u8 b] w fun e w' => e = .returned (.bool true) ∧ CurL w' g (ofs L 1) ∧ Eff g w w' := by
  have he : L.toList.isEmpty = false := by
    cases hq : L.toList.isEmpty with
    | false => rfl
    | true => exact absurd (by rw [Lib.toList_data] at hq; have := List.isEmpty_iff.1 hq; have e := data_length L; rw [this] at e; exact e.symm) (Nat.ne_of_gt h0)
  have hx : ∀ h : 0 < L.size, ((L[0]'h).toNat : Int) = b := fun h => (bt_at L 0 h).trans hb0
  have h1 : (0 : Int) < (L.size : Int) := by omega
  have H0 := Aside0.mk h0
  clear h0 hb0
  go_enter Try.func54, Try.ntmps54
  go_wp2_with fail
  refine (left_any _ _ _ h).mono ?_
  rintro e w1 ⟨rfl, hb⟩
  have HB := Aside0.mk hb
  have HC := Aside0.mk (h.below hb)
  clear hb h
  go_wp2_with fail
  refine (take_any _ _ _ HC.out 1 H0.out).mono ?_
  rintro e w2 ⟨rfl, HC2, HE⟩
  have HC2 := Aside0.mk HC2
  have HE2 := Aside0.mk ((Eff.of_below HB.out).trans HE)
  clear HE
  go_wp2
  go_ret
  exact ⟨rfl, HC2.out, HE2.out⟩
set_option maxHeartbeats 1000000 in
theorem byte_no (w : World) (g : Nat) (L : ByteArray) (b : Int) (h : CurL w g L) (hb0 : 0 < L.size → bt L 0 ≠ b) : Calls Try.prog 54 #[.pointer (some ⟨g, 0, none⟩), .int .u8 b] w fun e w' => e = .returned (.bool false) ∧ Below w.heap.size w w' := by
  by_cases h0 : 0 < L.size
  · have he : L.toList.isEmpty = false := by
      cases hq : L.toList.isEmpty with
      | false => rfl
      | true => exact absurd (by rw [Lib.toList_data] at hq; have := List.isEmpty_iff.1 hq; have e := data_length L; rw [this] at e; exact e.symm) (Nat.ne_of_gt h0)
    have hx : ∀ h : 0 < L.size, ((L[0]'h).toNat : Int) = bt L 0 := fun h => bt_at L 0 h
    have h1 : (0 : Int) < (L.size : Int) := by omega
    have hn : (bt L 0 != b) = true := bne_iff_ne.mpr (hb0 h0)
    clear h0 hb0
    go_enter Try.func54, Try.ntmps54
    go_wp2_with fail
    refine (left_any _ _ _ h).mono ?_
    rintro e w1 ⟨rfl, hb⟩
    have HB := Aside0.mk hb
    clear hb h
    go_wp2
    go_ret
    exact ⟨rfl, HB.out⟩
  · have he : L.toList.isEmpty = true := by
      rw [Lib.toList_data, List.isEmpty_iff]
      exact List.eq_nil_of_length_eq_zero (by rw [data_length]; omega)
    clear h0 hb0
    go_enter Try.func54, Try.ntmps54
    go_wp2_with fail
    refine (left_any _ _ _ h).mono ?_
    rintro e w1 ⟨rfl, hb⟩
    have HB := Aside0.mk hb
    clear hb h
    go_wp2
    go_ret
    exact ⟨rfl, HB.out⟩
set_option maxHeartbeats 1000000 in
theorem byte_nil (b : Int) (w : World) : Calls Try.prog 54 #[.pointer none, .int .u8 b] w fun e w' => e = .returned (.bool false) ∧ Below w.heap.size w w' := by
  go_enter Try.func54, Try.ntmps54
  go_wp2_with fail
  refine (left_nil _).mono ?_
  rintro e w1 ⟨rfl, hb⟩
  have HB := Aside0.mk hb
  clear hb
  go_wp2
  go_ret
  exact ⟨rfl, HB.out⟩
set_option maxHeartbeats 1000000 in
theorem take_nil (w : World) : Calls Try.prog 91 #[.pointer none, .int .i64 0] w fun e w' => e = .returned (.string ByteArray.empty) ∧ Below w.heap.size w w' := by
  go_enter Try.func91, Try.ntmps91
  go_wp2_with fail
  refine (left_nil _).mono ?_
  rintro e w1 ⟨rfl, hb⟩
  have HB := Aside0.mk hb
  clear hb
  go_wp2
  go_ret
  exact ⟨rfl, HB.out⟩
theorem span_nil (v : Value) (hv : ∃ n fs bs, v = .func (.func n) fs bs) (w : World) : Calls Try.prog 92 #[.pointer none, v] w fun e w' => e = .returned (.int .i64 0) ∧ Below w.heap.size w w' := by
  obtain ⟨n, fs, bs, rfl⟩ := hv
  go_enter Try.func92, Try.ntmps92
  go_wp2_with fail
  refine (left_nil _).mono ?_
  rintro e w1 ⟨rfl, hb⟩
  have HB := Aside0.mk hb
  clear hb
  go_wp2
  go_loopg [6] 0 (fun k v wr => v = .int .i64 0 ∧ Aside0 (Below w.heap.size w wr))
  case atStart => exact ⟨rfl, HB⟩
  case round =>
    obtain ⟨rfl, HB⟩ := hrel
    go_wp2
    go_ret
    exact ⟨rfl, HB.out⟩

set_option maxHeartbeats 1000000 in
theorem skip_any (w : World) (g : Nat) (L : ByteArray) (h : CurL w g L) : Calls Try.prog 56 #[.pointer (some ⟨g, 0, none⟩)] w fun e w' => e = .returned (.int .i64 ((spn blI L : Nat) : Int)) ∧ CurL w' g (ofs L (spn blI L)) ∧ Eff g w w' := by
  have HS := Lib.hid (upto_size L _ (spn_le blI L))
  go_enter Try.func56, Try.ntmps56
  go_wp2_with fail
  refine (span_skip1 _ _ _ h).mono ?_
  rintro e w1 ⟨rfl, hb⟩
  have HB := Aside0.mk hb
  have HC := Aside0.mk (h.below hb)
  clear hb h
  go_wp2_with fail
  refine (take_any _ _ _ HC.out _ (spn_le _ _)).mono ?_
  rintro e w2 ⟨rfl, HC2, HE⟩
  have HC2 := Aside0.mk HC2
  have HE2 := Aside0.mk ((Eff.of_below HB.out).trans HE)
  clear HE
  go_wp2
  go_ret
  exact ⟨by rw [HS.out]; rfl, HC2.out, HE2.out⟩
set_option maxHeartbeats 1000000 in
theorem skip_nil (w : World) : Calls Try.prog 56 #[.pointer none] w fun e w' => e = .returned (.int .i64 0) ∧ Below w.heap.size w w' := by
  go_enter Try.func56, Try.ntmps56
  go_wp2_with fail
  refine (span_nil _ ⟨_, _, _, rfl⟩ _).mono ?_
  rintro e w1 ⟨rfl, hb⟩
  have HB := Aside0.mk hb
  clear hb
  go_wp2_with fail
  refine (take_nil _).mono ?_
  rintro e w2 ⟨rfl, hb⟩
  have HB2 := Aside0.mk (below_step HB.out hb)
  clear hb
  go_wp2
  go_ret
  exact ⟨rfl, HB2.out⟩

set_option maxHeartbeats 1000000 in
theorem token_any (w : World) (g : Nat) (L : ByteArray) (h : CurL w g L) : Calls Try.prog 51 #[.pointer (some ⟨g, 0, none⟩)] w fun e w' => e = .returned (.string (upto L (spn tcI L))) ∧ CurL w' g (ofs L (spn tcI L)) ∧ Eff g w w' := by
  have HS := Lib.hid (upto_size L _ (spn_le tcI L))
  go_enter Try.func51, Try.ntmps51
  go_wp2_with fail
  refine (span_tchar _ _ _ h).mono ?_
  rintro e w1 ⟨rfl, hb⟩
  have HB := Aside0.mk hb
  have HC := Aside0.mk (h.below hb)
  clear hb h
  go_wp2_with fail
  refine (take_any _ _ _ HC.out _ (spn_le _ _)).mono ?_
  rintro e w2 ⟨rfl, HC2, HE⟩
  have HC2 := Aside0.mk HC2
  have HE2 := Aside0.mk ((Eff.of_below HB.out).trans HE)
  clear HE
  go_wp2
  go_ret
  exact ⟨by rfl, HC2.out, HE2.out⟩
set_option maxHeartbeats 1000000 in
theorem token_nil (w : World) : Calls Try.prog 51 #[.pointer none] w fun e w' => e = .returned (.string ByteArray.empty) ∧ Below w.heap.size w w' := by
  go_enter Try.func51, Try.ntmps51
  go_wp2_with fail
  refine (span_nil _ ⟨_, _, _, rfl⟩ _).mono ?_
  rintro e w1 ⟨rfl, hb⟩
  have HB := Aside0.mk hb
  clear hb
  go_wp2_with fail
  refine (take_nil _).mono ?_
  rintro e w2 ⟨rfl, hb⟩
  have HB2 := Aside0.mk (below_step HB.out hb)
  clear hb
  go_wp2
  go_ret
  exact ⟨rfl, HB2.out⟩

set_option maxHeartbeats 1000000 in
theorem until_any (w : World) (g : Nat) (L : ByteArray) (b : Int) (h : CurL w g L) : Calls Try.prog 59 #[.pointer (some ⟨g, 0, none⟩), .int .u8 b] w fun e w' => e = .returned (.string (upto L (spn (neI b) L))) ∧ CurL w' g (ofs L (spn (neI b) L)) ∧ Eff g w w' := by
  have HS := Lib.hid (upto_size L _ (spn_le (neI b) L))
  have HC := Aside0.mk (h.below (below_alloc (Below.refl w.heap.size w) (.cells #[.int .u8 b] 5 (0, 0))))
  go_enter Try.func59, Try.ntmps59
  go_wp2_with fail
  refine (span_until1 _ _ _ HC.out b _ (blk_new _ _)).mono ?_
  rintro e w1 ⟨rfl, hb⟩
  have HB := Aside0.mk hb
  have HC := Aside0.mk (HC.out.below hb)
  clear hb h
  go_wp2_with fail
  refine (take_any _ _ _ HC.out _ (spn_le _ _)).mono ?_
  rintro e w2 ⟨rfl, HC2, HE⟩
  have HC2 := Aside0.mk HC2
  have HE2 := Aside0.mk ((Eff.of_below (below_step (below_alloc (Below.refl _ _) _) HB.out)).trans HE)
  clear HE
  go_wp2
  go_ret
  exact ⟨by rfl, HC2.out, HE2.out⟩
set_option maxHeartbeats 1000000 in
theorem until_nil (b : Int) (w : World) : Calls Try.prog 59 #[.pointer none, .int .u8 b] w fun e w' => e = .returned (.string ByteArray.empty) ∧ Below w.heap.size w w' := by
  go_enter Try.func59, Try.ntmps59
  go_wp2_with fail
  refine (span_nil _ ⟨_, _, _, rfl⟩ _).mono ?_
  rintro e w1 ⟨rfl, hb⟩
  have HB := Aside0.mk hb
  clear hb
  go_wp2_with fail
  refine (take_nil _).mono ?_
  rintro e w2 ⟨rfl, hb⟩
  have HB2 := Aside0.mk (below_step (below_step (below_alloc (Below.refl _ _) _) HB.out) hb)
  clear hb
  go_wp2
  go_ret
  exact ⟨rfl, HB2.out⟩
end Go.Proofs.Ytbelgmfhaddhmaa.Q
