/- The contracts of Lines' methods: Whole, Spent, Within, Line, New. -/
import Derived.Test.YtabegfdmmjhfdaaExtB
namespace Go.Proofs.Ytabegfdmmjhfdaa.Q
open Go.RowKit Go.Proofs.YtabegfdmmjhfdaaW.PrintWords
open Go.Proofs.Ytabegfdmmjhfdaa.Plain
set_option linter.unusedVariables false

set_option maxHeartbeats 400000 in
theorem whole_any (W : World) (B g : Nat) (st : St) (b : Bool) (hL : IsL W B g st) (hb : Hid (st.whole = b)) : Calls Try.prog 14 #[.pointer (some ⟨g, 0, none⟩)] W fun e w' => e = .returned (.bool b) ∧ W = w' := by
  obtain ⟨hg, lv, hk, ho⟩ := hL
  obtain ⟨c0, c1, c2, c3, c4, c5, c6⟩ := lines_cells hk
  rw [hb.out] at c5
  clear hk ho
  go_enter Try.func14, Try.ntmps14
  go_wp2
  go_ret
  exact ⟨rfl, rfl⟩
set_option maxHeartbeats 400000 in
theorem within_any (W : World) (B g : Nat) (st : St) (hL : IsL W B g st) : Calls Try.prog 13 #[.pointer (some ⟨g, 0, none⟩)] W fun e w' => e = .returned (.bool st.within) ∧ W = w' := by
  obtain ⟨hg, lv, hk, ho⟩ := hL
  obtain ⟨c0, c1, c2, c3, c4, c5, c6⟩ := lines_cells hk
  clear hk ho
  go_enter Try.func13, Try.ntmps13
  go_wp2
  go_ret
  exact ⟨rfl, rfl⟩
set_option maxHeartbeats 400000 in
theorem spent_any (W : World) (B g : Nat) (st : St) (hL : IsL W B g st) : Calls Try.prog 12 #[.pointer (some ⟨g, 0, none⟩)] W fun e w' => e = .returned (.int .i64 st.spent) ∧ W = w' := by
  obtain ⟨hg, lv, hk, ho⟩ := hL
  obtain ⟨c0, c1, c2, c3, c4, c5, c6⟩ := lines_cells hk
  clear hk ho
  go_enter Try.func12, Try.ntmps12
  go_wp2
  go_ret
  exact ⟨rfl, rfl⟩
-- nil receivers
set_option maxHeartbeats 400000 in
theorem whole_nil (W : World) : Calls Try.prog 14 #[.pointer none] W fun e w' => e = .returned (.bool false) ∧ W = w' := by
  go_enter Try.func14, Try.ntmps14
  go_wp2
  go_ret
  exact ⟨rfl, rfl⟩
set_option maxHeartbeats 400000 in
theorem within_nil (W : World) : Calls Try.prog 13 #[.pointer none] W fun e w' => e = .returned (.bool false) ∧ W = w' := by
  go_enter Try.func13, Try.ntmps13
  go_wp2
  go_ret
  exact ⟨rfl, rfl⟩
set_option maxHeartbeats 400000 in
theorem spent_nil (W : World) : Calls Try.prog 12 #[.pointer none] W fun e w' => e = .returned (.int .i64 0) ∧ W = w' := by
  go_enter Try.func12, Try.ntmps12
  go_wp2
  go_ret
  exact ⟨rfl, rfl⟩
set_option maxHeartbeats 400000 in
theorem line_nil (W : World) : Calls Try.prog 16 #[.pointer none] W fun e w' => e = .returned (.string ⟨#[]⟩) ∧ W = w' := by
  go_enter Try.func16, Try.ntmps16
  go_wp2_with (go_at_call 14; refine (whole_nil _).mono ?_; rintro e w' ⟨rfl, rfl⟩)
  go_ret
  exact ⟨rfl, rfl⟩
set_option maxHeartbeats 400000 in
theorem line_not (W : World) (B g : Nat) (st : St) (hL : IsL W B g st) (hw : Hid (st.whole = false)) : Calls Try.prog 16 #[.pointer (some ⟨g, 0, none⟩)] W fun e w' => e = .returned (.string ⟨#[]⟩) ∧ W = w' := by
  have HL := Aside0.mk hL
  clear hL
  go_enter Try.func16, Try.ntmps16
  go_wp2_with (go_at_call 14; refine (whole_any _ B g st false HL.out hw).mono ?_; rintro e w' ⟨rfl, rfl⟩)
  go_ret
  exact ⟨rfl, rfl⟩
theorem line_post {W : World} {B g : Nat} {st : St} {lv nv : Value} (hk : W.heap[g]? = some (.cells #[.int .i64 st.left, .int .i64 st.spent, lv, .bool st.within, .bool st.turn, .bool st.whole, .int .i64 st.e] 38 (0, 0)))
    (ho : W.ownsRow B 5 1 lv st.line.length (nums .u8 st.line)) (hg : B ≤ g) (hn : W.ownsRow B 5 1 nv 0 []) :
    (Ending.returned (.string (strOfNums st.line)) = .returned (.string (strOfNums st.line))) ∧ IsL ((W.setCell ⟨g, 2, none⟩ nv).setCell ⟨g, 5, none⟩ (.bool false)) B g { st with line := [], whole := false } ∧ Below B W ((W.setCell ⟨g, 2, none⟩ nv).setCell ⟨g, 5, none⟩ (.bool false)) ∧ Eff g W ((W.setCell ⟨g, 2, none⟩ nv).setCell ⟨g, 5, none⟩ (.bool false)) :=
  ⟨rfl, ⟨hg, nv, by simpa using blk_set (blk_set hk 2 nv) 5 (.bool false), own_far (own_far hn hk (by decide) 2 _) (blk_set hk 2 _) (by decide) 5 _⟩, ((Below.refl _ _).setCell hg _).setCell hg _, ((Eff.refl g W).set 2 _).set 5 _⟩
set_option maxHeartbeats 400000 in
theorem line_yes (W : World) (B g : Nat) (st : St) (hL : IsL W B g st) (hw : Hid (st.whole = true)) : Calls Try.prog 16 #[.pointer (some ⟨g, 0, none⟩)] W fun e w' => e = .returned (.string (strOfNums st.line)) ∧ IsL w' B g { st with line := [], whole := false } ∧ Below B W w' ∧ Eff g W w' := by
  have HL := Aside0.mk hL
  obtain ⟨hg, lv, hk, ho⟩ := hL
  obtain ⟨c0, c1, c2, c3, c4, c5, c6⟩ := lines_cells hk
  have f2 := blk_frozen hk 2
  have f5 := blk_frozen hk 5
  have hcv := own_string (P := Try.prog) Try.underlying36 Try.underlying5 Try.underlying9 ho
  have HK := Aside0.mk hk
  clear hk
  rcases ho.2 with ⟨rfl, hn⟩ | ⟨b, cap, cur, rfl, hB, hh, hnc, hcm, hcs, hct⟩
  · have HO := Aside0.mk ho
    clear ho c0 c1 c3 c4 c6
    go_enter Try.func16, Try.ntmps16
    go_wp2_with (go_at_call 14; refine (whole_any _ B g st true HL.out hw).mono ?_; rintro e w' ⟨rfl, rfl⟩)
    go_ret
    exact line_post HK.out HO.out hg (own_nil _ _ _ _)
  · have HO := Aside0.mk ho
    have HH := Aside0.mk (And.intro hB (And.intro hh (And.intro hcm hcs)))
    clear ho c0 c1 c3 c4 c6 hh hcs hct hcm hB
    go_enter Try.func16, Try.ntmps16
    go_wp2_with (go_at_call 14; refine (whole_any _ B g st true HL.out hw).mono ?_; rintro e w' ⟨rfl, rfl⟩)
    go_ret
    obtain ⟨h1, h2, h3, h4⟩ := HH.out
    exact line_post HK.out HO.out hg ⟨rfl, .inr ⟨b, cap, cur, rfl, h1, h2, Nat.zero_le _, h3, h4, by simp⟩⟩
set_option maxHeartbeats 400000 in
theorem new_none (W : World) (m : Int) (h : m < 0 ∨ 65536 < m) : Calls Try.prog 7 #[.int .i64 m] W fun e w' => e = .returned (.pointer none) ∧ W = w' := by
  rcases h with h | h
  · go_enter Try.func7, Try.ntmps7
    go_wp2
    go_ret
    exact ⟨rfl, rfl⟩
  · have h0 : ¬ m < 0 := by omega
    go_enter Try.func7, Try.ntmps7
    go_wp2
    go_ret
    exact ⟨rfl, rfl⟩
def fresh (m : Int) : St := { left := m, spent := 0, line := [], within := false, turn := false, whole := false, e := 0 }
theorem fresh_is (W : World) (B : Nat) (m : Int) (hB : B ≤ W.heap.size) : IsL (W.alloc (.cells #[.int .i64 m, .int .i64 0, .slice none 0 0, .bool false, .bool false, .bool false, .int .i64 0] 38)) B W.heap.size (fresh m) :=
  ⟨hB, .slice none 0 0, blk_new W _, own_nil _ _ _ _⟩
set_option maxHeartbeats 400000 in
theorem new_some (W : World) (m : Int) (h0 : 0 ≤ m) (h1 : m ≤ 65536) : Calls Try.prog 7 #[.int .i64 m] W fun e w' => e = .returned (.pointer (some ⟨W.heap.size, 0, none⟩)) ∧ w' = W.alloc (.cells #[.int .i64 m, .int .i64 0, .slice none 0 0, .bool false, .bool false, .bool false, .int .i64 0] 38) := by
  go_enter Try.func7, Try.ntmps7
  go_wp2
  go_ret
  exact ⟨rfl, rfl⟩
end Go.Proofs.Ytabegfdmmjhfdaa.Q
