/- The law's lives. -/
import Derived.Test.YtabegfdmmjhfdaaExtD
namespace Go.Proofs.Ytabegfdmmjhfdaa.Q
open Go.RowKit Go.Proofs.YtabegfdmmjhfdaaW.PrintWords
open Go.Proofs.Ytabegfdmmjhfdaa.Plain
set_option linter.unusedVariables false

def live1 : St := { left := 96, spent := 4, line := [97, 98], within := false, turn := false, whole := true, e := 0 }
def live2 : St := { left := 95, spent := 5, line := [99], within := true, turn := false, whole := false, e := 8 }
theorem live_a : feed (fresh 100) (bytesOf ⟨#[97, 98, 13, 10, 99]⟩) = (4, live1) := by rfl
theorem live_b : feed live1.taken (bytesOf ⟨#[99, 10]⟩) = (1, live2) := by rfl
theorem fresh_ok (m : Int) (h0 : 0 ≤ m) (h1 : m ≤ 65536) : Ok (fresh m) := ⟨h0, h1, by simp [fresh], by simp [fresh]; omega, by simp [fresh]⟩
theorem live1_ok : Ok live1 := ⟨by simp [live1], by simp [live1], by simp [live1], by simp [live1], by simp [live1]⟩
theorem lineA : strOfNums live1.line = ⟨#[97, 98]⟩ := by rfl

set_option maxHeartbeats 2000000 in
theorem lives_any (W : World) : Calls Try.prog 8 #[] W fun e w' => e = .returned (.bool true) ∧ Below W.heap.size W w' := by
  go_enter Try.func8, Try.ntmps8
  go_wp2_with fail
  refine (new_some _ 100 (by omega) (by omega)).mono ?_
  rintro e w1 ⟨rfl, rfl⟩
  have HL := Aside0.mk (fresh_is W W.heap.size 100 (Nat.le_refl _))
  have HB := Aside0.mk (below_alloc (Below.refl W.heap.size W) (.cells #[.int .i64 100, .int .i64 0, .slice none 0 0, .bool false, .bool false, .bool false, .int .i64 0] 38))
  go_wp2_with fail
  refine (new_none _ (-1) (by omega)).mono ?_
  rintro e w1 ⟨rfl, rfl⟩
  go_wp2_with fail
  refine (feed_any _ W.heap.size W.heap.size (fresh 100) _ HL.out (fresh_ok 100 (by omega) (by omega)) (by simp) (by decide)).mono ?_
  unfold FeedPost
  rw [live_a]
  rintro e w1 ⟨rfl, hL1, hb1, he1⟩
  have HL1 := Aside0.mk hL1
  have HB1 := Aside0.mk (HB.out.trans hb1)
  have hs1 : W.heap.size ≤ w1.heap.size := HB1.out.size
  clear hL1 hb1 he1 HL HB
  go_wp2_with fail
  refine (line_yes _ W.heap.size W.heap.size live1 HL1.out (Lib.hid rfl)).mono ?_
  rw [lineA]
  rintro e w2 ⟨rfl, hL2, hb2, he2⟩
  have HL2 := Aside0.mk (show IsL w2 W.heap.size W.heap.size live1.taken from hL2)
  have HB2 := Aside0.mk (HB1.out.trans hb2)
  have hs2 : W.heap.size ≤ w2.heap.size := HB2.out.size
  clear hL2 hb2 he2 HL1 HB1
  go_wp2_with fail
  refine (feed_any _ W.heap.size W.heap.size live1.taken _ HL2.out live1_ok.taken hs2 (by decide)).mono ?_
  unfold FeedPost
  rw [live_b]
  rintro e w3 ⟨rfl, hL3, hb3, he3⟩
  have HL3 := Aside0.mk hL3
  have HB3 := Aside0.mk (HB2.out.trans hb3)
  clear hL3 hb3 he3 HL2 HB2
  go_wp2_with fail
  refine (spent_any _ _ _ live2 HL3.out).mono ?_
  rintro e w4 ⟨rfl, rfl⟩
  rw [show live2.spent = 5 from rfl]
  go_wp2
  go_ret
  exact ⟨rfl, HB3.out⟩
end Go.Proofs.Ytabegfdmmjhfdaa.Q
