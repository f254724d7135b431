/- The walk of the law LinesNone. -/
import Derived.Test.YtabegfdmmjhfdaaExtG
import Derived.Test.YtabegfdmmjhfdaaWMore
namespace Go.Proofs.Ytabegfdmmjhfdaa.Q
open Go.RowKit Go.Proofs.YtabegfdmmjhfdaaW.PrintWords Go.Proofs.YtabegfdmmjhfdaaW.PrintMore
open Go.Proofs.Ytabegfdmmjhfdaa.Plain
set_option linter.unusedVariables false
attribute [local go_sem] max2_int min2_int max_two min_two max_three min_three max_four min_four

theorem IsL.below {w w' : World} {B g : Nat} {st : St} (h : IsL w B g st) (hb : Below w.heap.size w w') : IsL w' B g st := by
  obtain ⟨hB, lv, hk, ho⟩ := h
  exact ⟨hB, lv, blk_below hk hb, pw_own_below ho hb⟩

set_option maxHeartbeats 4000000 in
set_option maxRecDepth 100000 in
theorem none_small_empty (s : ByteArray) (W : World) (hs : s.size ≤ 100) (he : s.toList.isEmpty = true) (hfz : Hid (feed (fresh 0) (bytesOf s) = (0, { fresh 0 with e := 0 }))) (hts : s.size ≤ 100) : Calls Try.prog 5 #[.string s] W fun e w' => e = .returned (.bool true) ∧ Below W.heap.size W w' := by
  have hnn : ((⟨#[]⟩ : ByteArray) ++ (⟨#[]⟩ : ByteArray)) = ⟨#[]⟩ := by decide
  go_enter Try.func5, Try.ntmps5
  go_wp2_with fail
  have HP := Aside0.mk (fresh_is W W.heap.size 0 (Nat.le_refl _))
  have HB := Aside0.mk (below_alloc (Below.refl W.heap.size W) (.cells #[.int .i64 0, .int .i64 0, .slice none 0 0, .bool false, .bool false, .bool false, .int .i64 0] 38))
  refine (feed_new _ _ _ rfl rfl _ rfl (fresh_ok 0 (by omega) (by omega)) _ (by have := hts; omega)).mono ?_
  unfold FeedPost
  rw [hfz.out]
  rintro e w1 ⟨rfl, _, hb1, _⟩
  have HP1 := Aside0.mk (HP.out.below hb1)
  have HB1 := Aside0.mk (below_step HB.out hb1)
  have hs1 : W.heap.size ≤ w1.heap.size := HB1.out.size
  rw [show ({ fresh 0 with e := 0 } : St).e = 0 from rfl]
  clear hb1 HP HB
  go_wp2_with fail
  refine (feed_any _ _ _ _ _ HP1.out (fresh_ok 0 (by omega) (by omega)) hs1 (by have := hts; omega)).mono ?_
  unfold FeedPost
  rw [hfz.out]
  rintro e w2 ⟨rfl, hL2, hb2, _⟩
  rw [show ({ fresh 0 with e := 0 } : St).e = 0 from rfl]
  have HL2 := Aside0.mk hL2
  have HB2 := Aside0.mk (HB1.out.trans hb2)
  clear hL2 hb2 HP1 HB1
  go_wp2_with fail
  refine (line_nil _).mono ?_
  rintro e w3 ⟨rfl, rfl⟩
  go_wp2_with fail
  refine (line_not _ _ _ _ HL2.out (Lib.hid rfl)).mono ?_
  rintro e w3 ⟨rfl, rfl⟩
  go_wp2_with fail
  refine (whole_nil _).mono ?_
  rintro e w3 ⟨rfl, rfl⟩
  go_wp2_with fail
  refine (whole_any _ _ _ _ false HL2.out (Lib.hid rfl)).mono ?_
  rintro e w3 ⟨rfl, rfl⟩
  go_wp2_with fail
  refine (spent_nil _).mono ?_
  rintro e w3 ⟨rfl, rfl⟩
  go_wp2_with fail
  refine (spent_any _ _ _ _ HL2.out).mono ?_
  rintro e w3 ⟨rfl, rfl⟩
  rw [show ({ fresh 0 with e := 0 } : St).spent = 0 from rfl]
  go_wp2_with fail
  refine (within_nil _).mono ?_
  rintro e w3 ⟨rfl, rfl⟩
  go_wp2_with fail
  refine (within_any _ _ _ _ HL2.out).mono ?_
  rintro e w3 ⟨rfl, rfl⟩
  rw [show ({ fresh 0 with e := 0 } : St).within = false from rfl]
  go_wp2_with fail
  refine (lives_any _).mono ?_
  rintro e w3 ⟨rfl, hb3⟩
  have HB3 := Aside0.mk (below_step HB2.out hb3)
  clear hb3
  go_wp2
  go_ret
  exact ⟨rfl, HB3.out⟩
set_option maxHeartbeats 4000000 in
set_option maxRecDepth 100000 in
theorem none_small_full (s : ByteArray) (W : World) (hs : s.size ≤ 100) (he : s.toList.isEmpty = false) (hfz : Hid (feed (fresh 0) (bytesOf s) = (0, { fresh 0 with e := 4 }))) (hts : s.size ≤ 100) : Calls Try.prog 5 #[.string s] W fun e w' => e = .returned (.bool true) ∧ Below W.heap.size W w' := by
  have hnn : ((⟨#[]⟩ : ByteArray) ++ (⟨#[]⟩ : ByteArray)) = ⟨#[]⟩ := by decide
  go_enter Try.func5, Try.ntmps5
  go_wp2_with fail
  have HP := Aside0.mk (fresh_is W W.heap.size 0 (Nat.le_refl _))
  have HB := Aside0.mk (below_alloc (Below.refl W.heap.size W) (.cells #[.int .i64 0, .int .i64 0, .slice none 0 0, .bool false, .bool false, .bool false, .int .i64 0] 38))
  refine (feed_new _ _ _ rfl rfl _ rfl (fresh_ok 0 (by omega) (by omega)) _ (by have := hts; omega)).mono ?_
  unfold FeedPost
  rw [hfz.out]
  rintro e w1 ⟨rfl, _, hb1, _⟩
  have HP1 := Aside0.mk (HP.out.below hb1)
  have HB1 := Aside0.mk (below_step HB.out hb1)
  have hs1 : W.heap.size ≤ w1.heap.size := HB1.out.size
  rw [show ({ fresh 0 with e := 4 } : St).e = 4 from rfl]
  clear hb1 HP HB
  go_wp2_with fail
  refine (feed_any _ _ _ _ _ HP1.out (fresh_ok 0 (by omega) (by omega)) hs1 (by have := hts; omega)).mono ?_
  unfold FeedPost
  rw [hfz.out]
  rintro e w2 ⟨rfl, hL2, hb2, _⟩
  rw [show ({ fresh 0 with e := 4 } : St).e = 4 from rfl]
  have HL2 := Aside0.mk hL2
  have HB2 := Aside0.mk (HB1.out.trans hb2)
  clear hL2 hb2 HP1 HB1
  go_wp2_with fail
  refine (line_nil _).mono ?_
  rintro e w3 ⟨rfl, rfl⟩
  go_wp2_with fail
  refine (line_not _ _ _ _ HL2.out (Lib.hid rfl)).mono ?_
  rintro e w3 ⟨rfl, rfl⟩
  go_wp2_with fail
  refine (whole_nil _).mono ?_
  rintro e w3 ⟨rfl, rfl⟩
  go_wp2_with fail
  refine (whole_any _ _ _ _ false HL2.out (Lib.hid rfl)).mono ?_
  rintro e w3 ⟨rfl, rfl⟩
  go_wp2_with fail
  refine (spent_nil _).mono ?_
  rintro e w3 ⟨rfl, rfl⟩
  go_wp2_with fail
  refine (spent_any _ _ _ _ HL2.out).mono ?_
  rintro e w3 ⟨rfl, rfl⟩
  rw [show ({ fresh 0 with e := 4 } : St).spent = 0 from rfl]
  go_wp2_with fail
  refine (within_nil _).mono ?_
  rintro e w3 ⟨rfl, rfl⟩
  go_wp2_with fail
  refine (within_any _ _ _ _ HL2.out).mono ?_
  rintro e w3 ⟨rfl, rfl⟩
  rw [show ({ fresh 0 with e := 4 } : St).within = false from rfl]
  go_wp2_with fail
  refine (lives_any _).mono ?_
  rintro e w3 ⟨rfl, hb3⟩
  have HB3 := Aside0.mk (below_step HB2.out hb3)
  clear hb3
  go_wp2
  go_ret
  exact ⟨rfl, HB3.out⟩
set_option maxHeartbeats 4000000 in
set_option maxRecDepth 100000 in
theorem none_great_empty (s : ByteArray) (W : World) (hs : 100 < s.size) (he : (s.extract 0 100).toList.isEmpty = true) (hfz : Hid (feed (fresh 0) (bytesOf (s.extract 0 100)) = (0, { fresh 0 with e := 0 }))) (hts : (s.extract 0 100).size ≤ 100) : Calls Try.prog 5 #[.string s] W fun e w' => e = .returned (.bool true) ∧ Below W.heap.size W w' := by
  have hs1 : ¬ s.size ≤ 100 := by omega
  have HTS := Lib.hid hts
  have hnn : ((⟨#[]⟩ : ByteArray) ++ (⟨#[]⟩ : ByteArray)) = ⟨#[]⟩ := by decide
  go_enter Try.func5, Try.ntmps5
  go_wp2_with fail
  have HP := Aside0.mk (fresh_is W W.heap.size 0 (Nat.le_refl _))
  have HB := Aside0.mk (below_alloc (Below.refl W.heap.size W) (.cells #[.int .i64 0, .int .i64 0, .slice none 0 0, .bool false, .bool false, .bool false, .int .i64 0] 38))
  refine (feed_new _ _ _ rfl rfl _ rfl (fresh_ok 0 (by omega) (by omega)) _ (by have := HTS.out; omega)).mono ?_
  unfold FeedPost
  rw [hfz.out]
  rintro e w1 ⟨rfl, _, hb1, _⟩
  have HP1 := Aside0.mk (HP.out.below hb1)
  have HB1 := Aside0.mk (below_step HB.out hb1)
  have hs1 : W.heap.size ≤ w1.heap.size := HB1.out.size
  rw [show ({ fresh 0 with e := 0 } : St).e = 0 from rfl]
  clear hb1 HP HB
  go_wp2_with fail
  refine (feed_any _ _ _ _ _ HP1.out (fresh_ok 0 (by omega) (by omega)) hs1 (by have := HTS.out; omega)).mono ?_
  unfold FeedPost
  rw [hfz.out]
  rintro e w2 ⟨rfl, hL2, hb2, _⟩
  rw [show ({ fresh 0 with e := 0 } : St).e = 0 from rfl]
  have HL2 := Aside0.mk hL2
  have HB2 := Aside0.mk (HB1.out.trans hb2)
  clear hL2 hb2 HP1 HB1
  go_wp2_with fail
  refine (line_nil _).mono ?_
  rintro e w3 ⟨rfl, rfl⟩
  go_wp2_with fail
  refine (line_not _ _ _ _ HL2.out (Lib.hid rfl)).mono ?_
  rintro e w3 ⟨rfl, rfl⟩
  go_wp2_with fail
  refine (whole_nil _).mono ?_
  rintro e w3 ⟨rfl, rfl⟩
  go_wp2_with fail
  refine (whole_any _ _ _ _ false HL2.out (Lib.hid rfl)).mono ?_
  rintro e w3 ⟨rfl, rfl⟩
  go_wp2_with fail
  refine (spent_nil _).mono ?_
  rintro e w3 ⟨rfl, rfl⟩
  go_wp2_with fail
  refine (spent_any _ _ _ _ HL2.out).mono ?_
  rintro e w3 ⟨rfl, rfl⟩
  rw [show ({ fresh 0 with e := 0 } : St).spent = 0 from rfl]
  go_wp2_with fail
  refine (within_nil _).mono ?_
  rintro e w3 ⟨rfl, rfl⟩
  go_wp2_with fail
  refine (within_any _ _ _ _ HL2.out).mono ?_
  rintro e w3 ⟨rfl, rfl⟩
  rw [show ({ fresh 0 with e := 0 } : St).within = false from rfl]
  go_wp2_with fail
  refine (lives_any _).mono ?_
  rintro e w3 ⟨rfl, hb3⟩
  have HB3 := Aside0.mk (below_step HB2.out hb3)
  clear hb3
  go_wp2
  go_ret
  exact ⟨rfl, HB3.out⟩
set_option maxHeartbeats 4000000 in
set_option maxRecDepth 100000 in
theorem none_great_full (s : ByteArray) (W : World) (hs : 100 < s.size) (he : (s.extract 0 100).toList.isEmpty = false) (hfz : Hid (feed (fresh 0) (bytesOf (s.extract 0 100)) = (0, { fresh 0 with e := 4 }))) (hts : (s.extract 0 100).size ≤ 100) : Calls Try.prog 5 #[.string s] W fun e w' => e = .returned (.bool true) ∧ Below W.heap.size W w' := by
  have hs1 : ¬ s.size ≤ 100 := by omega
  have HTS := Lib.hid hts
  have hnn : ((⟨#[]⟩ : ByteArray) ++ (⟨#[]⟩ : ByteArray)) = ⟨#[]⟩ := by decide
  go_enter Try.func5, Try.ntmps5
  go_wp2_with fail
  have HP := Aside0.mk (fresh_is W W.heap.size 0 (Nat.le_refl _))
  have HB := Aside0.mk (below_alloc (Below.refl W.heap.size W) (.cells #[.int .i64 0, .int .i64 0, .slice none 0 0, .bool false, .bool false, .bool false, .int .i64 0] 38))
  refine (feed_new _ _ _ rfl rfl _ rfl (fresh_ok 0 (by omega) (by omega)) _ (by have := HTS.out; omega)).mono ?_
  unfold FeedPost
  rw [hfz.out]
  rintro e w1 ⟨rfl, _, hb1, _⟩
  have HP1 := Aside0.mk (HP.out.below hb1)
  have HB1 := Aside0.mk (below_step HB.out hb1)
  have hs1 : W.heap.size ≤ w1.heap.size := HB1.out.size
  rw [show ({ fresh 0 with e := 4 } : St).e = 4 from rfl]
  clear hb1 HP HB
  go_wp2_with fail
  refine (feed_any _ _ _ _ _ HP1.out (fresh_ok 0 (by omega) (by omega)) hs1 (by have := HTS.out; omega)).mono ?_
  unfold FeedPost
  rw [hfz.out]
  rintro e w2 ⟨rfl, hL2, hb2, _⟩
  rw [show ({ fresh 0 with e := 4 } : St).e = 4 from rfl]
  have HL2 := Aside0.mk hL2
  have HB2 := Aside0.mk (HB1.out.trans hb2)
  clear hL2 hb2 HP1 HB1
  go_wp2_with fail
  refine (line_nil _).mono ?_
  rintro e w3 ⟨rfl, rfl⟩
  go_wp2_with fail
  refine (line_not _ _ _ _ HL2.out (Lib.hid rfl)).mono ?_
  rintro e w3 ⟨rfl, rfl⟩
  go_wp2_with fail
  refine (whole_nil _).mono ?_
  rintro e w3 ⟨rfl, rfl⟩
  go_wp2_with fail
  refine (whole_any _ _ _ _ false HL2.out (Lib.hid rfl)).mono ?_
  rintro e w3 ⟨rfl, rfl⟩
  go_wp2_with fail
  refine (spent_nil _).mono ?_
  rintro e w3 ⟨rfl, rfl⟩
  go_wp2_with fail
  refine (spent_any _ _ _ _ HL2.out).mono ?_
  rintro e w3 ⟨rfl, rfl⟩
  rw [show ({ fresh 0 with e := 4 } : St).spent = 0 from rfl]
  go_wp2_with fail
  refine (within_nil _).mono ?_
  rintro e w3 ⟨rfl, rfl⟩
  go_wp2_with fail
  refine (within_any _ _ _ _ HL2.out).mono ?_
  rintro e w3 ⟨rfl, rfl⟩
  rw [show ({ fresh 0 with e := 4 } : St).within = false from rfl]
  go_wp2_with fail
  refine (lives_any _).mono ?_
  rintro e w3 ⟨rfl, hb3⟩
  have HB3 := Aside0.mk (below_step HB2.out hb3)
  clear hb3
  go_wp2
  go_ret
  exact ⟨rfl, HB3.out⟩

theorem empty_iff (t : ByteArray) : (bytesOf t).isEmpty = t.toList.isEmpty := by
  rw [Lib.toList_data]; unfold bytesOf; cases t.data.toList <;> rfl
theorem none_walk (s : ByteArray) (W : World) (hs : s.size ≤ 140737488351232) : Calls Try.prog 5 #[.string s] W fun e w' => e = .returned (.bool true) ∧ Below W.heap.size W w' := by
  have key : ∀ t : ByteArray, (t.toList.isEmpty = true ∧ feed (fresh 0) (bytesOf t) = (0, { fresh 0 with e := 0 })) ∨ (t.toList.isEmpty = false ∧ feed (fresh 0) (bytesOf t) = (0, { fresh 0 with e := 4 })) := by
    intro t
    cases h : t.toList.isEmpty with
    | true => exact .inl ⟨rfl, by rw [feed_zero, empty_iff, h]; rfl⟩
    | false => exact .inr ⟨rfl, by rw [feed_zero, empty_iff, h]; rfl⟩
  by_cases h : s.size ≤ 100
  · rcases key s with ⟨h1, h2⟩ | ⟨h1, h2⟩
    · exact none_small_empty s W h h1 h2 h
    · exact none_small_full s W h h1 h2 h
  · have ht : (s.extract 0 100).size ≤ 100 := by simp; omega
    rcases key (s.extract 0 100) with ⟨h1, h2⟩ | ⟨h1, h2⟩
    · exact none_great_empty s W (by omega) h1 h2 ht
    · exact none_great_full s W (by omega) h1 h2 ht
end Go.Proofs.Ytabegfdmmjhfdaa.Q
