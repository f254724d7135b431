/- Feed at nil: a Lines of its own. -/
import Derived.Test.YtabegfdmmjhfdaaExtF
namespace Go.Proofs.Ytabegfdmmjhfdaa.Q
open Go.RowKit Go.Proofs.YtabegfdmmjhfdaaW.PrintWords
open Go.Proofs.Ytabegfdmmjhfdaa.Plain
set_option linter.unusedVariables false

set_option maxHeartbeats 2000000 in
set_option maxRecDepth 100000 in
theorem feed_new (W : World) (B g : Nat) (hgW : g = W.heap.size) (hBW : B = W.heap.size) (st : St) (hst : st = fresh 0) (ok : Ok st) (s : ByteArray) (hs : s.size ≤ 140737488351232) :
    Calls Try.prog 15 #[.pointer none, .string s] W (FeedPost W B g st s) := by
  have hmf : ∀ (fn : Fn) (first cap : Array Value) (w : World), (Instr.makeFunc fn first cap).run Try.prog w = .ok (.func fn first cap) w := fun _ _ _ _ => rfl
  have HG := Lib.hid hgW
  have HBW := Lib.hid hBW
  have HST := Lib.hid hst
  have hB : B ≤ W.heap.size := by omega
  have HF : Aside0 (FeedAt st st s 0 (s.size + 1)) := ⟨⟨by omega, by simp, by simp, ok, by split <;> omega⟩⟩
  clear ok hgW hBW hst
  go_enter Try.func15, Try.ntmps15
  go_wp2
  rw [← HG.out]
  go_loopg [4] (s.size + 1) (fun k u wr => ∃ (j : Nat) (st' : St), u = .int .i64 j ∧ Aside0 (FeedAt st st' s j k) ∧ Aside0 (IsL wr B g st') ∧ Aside0 (Below B W wr) ∧ Aside0 (Eff g W wr))
  case atStart =>
    have hL := fresh_is W B 0 hB
    rw [← HG.out, ← HST.out] at hL
    exact ⟨0, st, rfl, HF, ⟨hL⟩, ⟨(Below.refl _ _).alloc hB _⟩, ⟨(Eff.refl _ _).alloc _⟩⟩
  case round =>
    clear HF
    obtain ⟨j, st', rfl, HF, HL, HB, HE⟩ := hrel
    obtain ⟨hg, lv, hb, ho⟩ := HL.out
    obtain ⟨c0, c1, c2, c3, c4, c5, c6⟩ := lines_cells hb
    have hlt := blk_lt hb
    clear hb ho c0 c1 c2 c3 c4
    have hj := HF.out.le
    by_cases hjs : j < s.size
    · cases hw : st'.whole with
      | true =>
        rw [hw] at c5
        have HW := Lib.hid hw
        clear hw
        go_wp2
        go_quiet (fail)
        go_wp2
        go_ret2
        exact HF.out.post (.inl HW.out) HL.out HB.out HE.out _
      | false =>
        rw [hw] at c5
        have HW := Lib.hid hw
        clear hw
        by_cases he : st'.e = 0
        · rw [he] at c6
          have HE0 := Lib.hid he
          clear he
          have hBr : B ≤ wr.heap.size := by omega
          obtain ⟨st1, er, HS⟩ : ∃ st1 er, Hid (see st' ((s[j]'hjs).toNat : Int) = (st1, er)) := ⟨_, _, rfl⟩
          go_wp2_with fail
          refine (see_any wr B g st' _ HL.out HF.out.ok hBr HW.out).mono ?_
          rw [HS.out]
          rintro e w1 ⟨rfl, hL1, hb1, he1⟩
          have HL1 := Aside0.mk hL1
          have HB1 := Aside0.mk (HB.out.trans hb1)
          have HE1 := Aside0.mk (HE.out.trans he1)
          have ok1 := HF.out.ok.see ((s[j]'hjs).toNat : Int)
          rw [HS.out] at ok1
          have HO1 := Aside0.mk (show Ok st1 from ok1)
          obtain ⟨_, lv1, hk1, _⟩ := hL1
          obtain ⟨_, _, _, _, _, _, k6⟩ := lines_cells hk1
          have f6 := blk_frozen hk1 6
          have hlt1 := blk_lt hk1
          clear hb1 he1 ok1 hk1 c5 c6
          have HFo := HF.out
          obtain ⟨_, f1, f2, _, fl⟩ := HFo
          rw [bytesOf_drop s j hjs] at f1 f2
          by_cases hz : er = 0
          · subst hz
            rw [feed_good HW.out HE0.out HS.out] at f1 f2
            have HF2 := Aside0.mk (show FeedAt st { st1 with e := 0 } s (j + 1) (gk - 1) from ⟨hjs, by rw [f1]; simp; omega, f2, HO1.out.err 0, by rw [if_pos HE0.out] at fl; simp; omega⟩)
            have hpos : 1 ≤ gk := by rw [if_pos HE0.out] at fl; omega
            clear f1 f2 fl
            go_wp2
            go_roundg (gk - 1)
            case measure => omega
            case rel => exact ⟨j + 1, { st1 with e := 0 }, by go_num, HF2, ⟨HL1.out.set_e 0⟩, ⟨HB1.out.setCell hg _⟩, ⟨HE1.out.set 6 _⟩⟩
          · rw [feed_bad HW.out HE0.out HS.out hz] at f1 f2
            have HF2 := Aside0.mk (show FeedAt st { st1 with e := er } s j (gk - 1) from ⟨hj, by rw [f1, feed_stop (.inr hz)], by rw [f2, feed_stop (.inr hz)], HO1.out.err er, by rw [if_pos HE0.out] at fl; rw [if_neg hz]; omega⟩)
            have hpos : 1 ≤ gk := by rw [if_pos HE0.out] at fl; omega
            have hz0 : (er == 0) = false := beq_eq_false_iff_ne.mpr hz
            clear f1 f2 fl hz
            go_wp2
            go_roundg (gk - 1)
            case measure => omega
            case rel => exact ⟨j, { st1 with e := er }, rfl, HF2, ⟨HL1.out.set_e er⟩, ⟨HB1.out.setCell hg _⟩, ⟨HE1.out.set 6 _⟩⟩
        · have he0 : (st'.e == 0) = false := beq_eq_false_iff_ne.mpr he
          have HE0 := Lib.hid he
          clear he
          go_wp2
          go_quiet (fail)
          go_wp2
          go_ret2
          exact HF.out.post (.inr (.inl HE0.out)) HL.out HB.out HE.out _
    · have hje : Hid (j = s.size) := by show j = s.size; omega
      go_wp2
      go_quiet (fail)
      go_wp2
      go_ret2
      exact HF.out.post (.inr (.inr hje.out)) HL.out HB.out HE.out _

theorem feed_zero (l : List Int) : feed (fresh 0) l = (0, { fresh 0 with e := if l.isEmpty then 0 else 4 }) := by
  cases l with
  | nil => rfl
  | cons c cs => rw [feed_bad rfl rfl (see_left rfl c) (by decide)]; rfl
end Go.Proofs.Ytabegfdmmjhfdaa.Q
