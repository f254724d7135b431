/- The contracts of Lines' methods: Feed. -/
import Derived.Test.YtabegfdmmjhfdaaExtA
import Derived.Deep.LoopGhost
import Derived.Deep.QuietTactic
import Derived.BigQuiet
import Derived.IntWalk
namespace Go.Proofs.Ytabegfdmmjhfdaa.Q
open Go.RowKit Go.Proofs.YtabegfdmmjhfdaaW.PrintWords
open Go.Proofs.Ytabegfdmmjhfdaa.Plain
set_option linter.unusedVariables false

theorem IsL.drew {W : World} {B g : Nat} {st : St} (h : IsL W B g st) : IsL W.drew B g st := h
theorem IsL.drewN {W : World} {B g : Nat} {st : St} (h : IsL W B g st) (n : Nat) : IsL (W.drewN n) B g st := h
theorem Eff.drewN {g : Nat} {a b : World} (h : Eff g a b) (n : Nat) : Eff g a (b.drewN n) := h
theorem IsL.set_e {W : World} {B g : Nat} {st : St} (h : IsL W B g st) (e : Int) : IsL (W.setCell ⟨g, 6, none⟩ (.int .i64 e)) B g { st with e := e } := by
  obtain ⟨hg, lv, hb, ho⟩ := h
  exact ⟨hg, lv, by simpa using blk_set hb 6 (.int .i64 e), own_far ho hb (by decide) 6 _⟩
theorem feed_stop {st : St} (h : st.whole = true ∨ st.e ≠ 0) (l : List Int) : feed st l = (0, st) := by
  cases l with
  | nil => rfl
  | cons c cs => rw [feed, if_pos h]
theorem feed_good {st : St} {c : Int} {cs : List Int} (hw : st.whole = false) (he : st.e = 0) {st1 : St} (h : see st c = (st1, 0)) : feed st (c :: cs) = ((feed { st1 with e := 0 } cs).1 + 1, (feed { st1 with e := 0 } cs).2) := by
  rw [feed, if_neg (by simp [hw, he]), h, if_pos rfl]
theorem feed_bad {st : St} {c : Int} {cs : List Int} (hw : st.whole = false) (he : st.e = 0) {st1 : St} {er : Int} (h : see st c = (st1, er)) (hr : er ≠ 0) : feed st (c :: cs) = (0, { st1 with e := er }) := by
  rw [feed, if_neg (by simp [hw, he]), h, if_neg hr]
theorem bytesOf_drop (s : ByteArray) (j : Nat) (h : j < s.size) : (bytesOf s).drop j = ((s[j]'h).toNat : Int) :: (bytesOf s).drop (j + 1) := by
  have h' : j < (bytesOf s).length := by rw [bytesOf_length]; exact h
  rw [List.drop_eq_getElem_cons h']
  congr 1
  simp [bytesOf]
  rfl
/-- What Feed's loop tells. -/
structure FeedAt (st st' : St) (s : ByteArray) (j k : Nat) : Prop where
  le : j ≤ s.size
  one : (feed st (bytesOf s)).1 = j + (feed st' ((bytesOf s).drop j)).1
  two : (feed st (bytesOf s)).2 = (feed st' ((bytesOf s).drop j)).2
  ok : Ok st'
  left : s.size - j + (if st'.e = 0 then 1 else 0) ≤ k
theorem FeedAt.stop {st st' : St} {s : ByteArray} {j k : Nat} (h : FeedAt st st' s j k) (hs : st'.whole = true ∨ st'.e ≠ 0 ∨ j = s.size) : feed st (bytesOf s) = (j, st') := by
  have : feed st' ((bytesOf s).drop j) = (0, st') := by
    rcases hs with hs | hs | hs
    · exact feed_stop (.inl hs) _
    · exact feed_stop (.inr hs) _
    · rw [hs, List.drop_eq_nil_of_le (by rw [bytesOf_length]; omega)]; rfl
  have h1 := h.one
  have h2 := h.two
  rw [this] at h1 h2
  exact Prod.ext (by simpa using h1) (by simpa using h2)

/-- Feed's end. -/
def FeedPost (W : World) (B g : Nat) (st : St) (s : ByteArray) (e : Ending) (w' : World) : Prop :=
  e = .returned (.tuple #[.int .i64 ((feed st (bytesOf s)).1 : Nat), .int .i64 (feed st (bytesOf s)).2.e]) ∧ IsL w' B g (feed st (bytesOf s)).2 ∧ Below B W w' ∧ Eff g W w'

theorem FeedAt.post {W wr : World} {B g : Nat} {st st' : St} {s : ByteArray} {j k : Nat} (hf : FeedAt st st' s j k) (hs : st'.whole = true ∨ st'.e ≠ 0 ∨ j = s.size) (hL : IsL wr B g st') (hb : Below B W wr) (he : Eff g W wr) (n : Nat) :
    FeedPost W B g st s (.returned (.tuple #[.int .i64 (j : Int), .int .i64 st'.e])) (wr.drewN n) := by
  have h := hf.stop hs
  unfold FeedPost
  rw [h]
  exact ⟨rfl, hL.drewN n, pw_below_drewN hb n, he.drewN n⟩
set_option maxHeartbeats 2000000 in
set_option maxRecDepth 100000 in
theorem feed_any (W : World) (B g : Nat) (st : St) (s : ByteArray) (hL : IsL W B g st) (ok : Ok st) (hB : B ≤ W.heap.size) (hs : s.size ≤ 140737488351232) :
    Calls Try.prog 15 #[.pointer (some ⟨g, 0, none⟩), .string s] W (FeedPost W B g st s) := by
  have hmf : ∀ (fn : Fn) (first cap : Array Value) (w : World), (Instr.makeFunc fn first cap).run Try.prog w = .ok (.func fn first cap) w := fun _ _ _ _ => rfl
  have HL := Aside0.mk hL
  have HF : Aside0 (FeedAt st st s 0 (s.size + 1)) := ⟨⟨by omega, by simp, by simp, ok, by split <;> omega⟩⟩
  clear hL ok
  go_enter Try.func15, Try.ntmps15
  go_wp2
  go_loopg [4] (s.size + 1) (fun k u wr => ∃ (j : Nat) (st' : St), u = .int .i64 j ∧ Aside0 (FeedAt st st' s j k) ∧ Aside0 (IsL wr B g st') ∧ Aside0 (Below B W wr) ∧ Aside0 (Eff g W wr))
  case atStart => exact ⟨0, st, rfl, HF, HL, ⟨Below.refl _ _⟩, ⟨Eff.refl _ _⟩⟩
  case round =>
    clear HL HF
    obtain ⟨j, st', rfl, HF, HL, HB, HE⟩ := hrel
    obtain ⟨hg, lv, hb, ho⟩ := HL.out
    obtain ⟨c0, c1, c2, c3, c4, c5, c6⟩ := lines_cells hb
    have hlt := blk_lt hb
    clear hb ho c0 c1 c2 c3 c4
    have hj := HF.out.le
    by_cases hjs : j < s.size
    · cases hw : st'.whole with
      | true =>
        rw [hw] at c5
        have HW := Lib.hid hw
        clear hw
        go_wp2
        go_quiet (fail)
        go_wp2
        go_ret2
        exact HF.out.post (.inl HW.out) HL.out HB.out HE.out _
      | false =>
        rw [hw] at c5
        have HW := Lib.hid hw
        clear hw
        by_cases he : st'.e = 0
        · rw [he] at c6
          have HE0 := Lib.hid he
          clear he
          have hBr : B ≤ wr.heap.size := by omega
          obtain ⟨st1, er, HS⟩ : ∃ st1 er, Hid (see st' ((s[j]'hjs).toNat : Int) = (st1, er)) := ⟨_, _, rfl⟩
          go_wp2_with fail
          refine (see_any wr B g st' _ HL.out HF.out.ok hBr HW.out).mono ?_
          rw [HS.out]
          rintro e w1 ⟨rfl, hL1, hb1, he1⟩
          have HL1 := Aside0.mk hL1
          have HB1 := Aside0.mk (HB.out.trans hb1)
          have HE1 := Aside0.mk (HE.out.trans he1)
          have ok1 := HF.out.ok.see ((s[j]'hjs).toNat : Int)
          rw [HS.out] at ok1
          have HO1 := Aside0.mk (show Ok st1 from ok1)
          obtain ⟨_, lv1, hk1, _⟩ := hL1
          obtain ⟨_, _, _, _, _, _, k6⟩ := lines_cells hk1
          have f6 := blk_frozen hk1 6
          have hlt1 := blk_lt hk1
          clear hb1 he1 ok1 hk1 c5 c6
          have HFo := HF.out
          obtain ⟨_, f1, f2, _, fl⟩ := HFo
          rw [bytesOf_drop s j hjs] at f1 f2
          by_cases hz : er = 0
          · subst hz
            rw [feed_good HW.out HE0.out HS.out] at f1 f2
            have HF2 := Aside0.mk (show FeedAt st { st1 with e := 0 } s (j + 1) (gk - 1) from ⟨hjs, by rw [f1]; simp; omega, f2, HO1.out.err 0, by rw [if_pos HE0.out] at fl; simp; omega⟩)
            have hpos : 1 ≤ gk := by rw [if_pos HE0.out] at fl; omega
            clear f1 f2 fl
            go_wp2
            go_roundg (gk - 1)
            case measure => omega
            case rel => exact ⟨j + 1, { st1 with e := 0 }, by go_num, HF2, ⟨HL1.out.set_e 0⟩, ⟨HB1.out.setCell hg _⟩, ⟨HE1.out.set 6 _⟩⟩
          · rw [feed_bad HW.out HE0.out HS.out hz] at f1 f2
            have HF2 := Aside0.mk (show FeedAt st { st1 with e := er } s j (gk - 1) from ⟨hj, by rw [f1, feed_stop (.inr hz)], by rw [f2, feed_stop (.inr hz)], HO1.out.err er, by rw [if_pos HE0.out] at fl; rw [if_neg hz]; omega⟩)
            have hpos : 1 ≤ gk := by rw [if_pos HE0.out] at fl; omega
            have hz0 : (er == 0) = false := beq_eq_false_iff_ne.mpr hz
            clear f1 f2 fl hz
            go_wp2
            go_roundg (gk - 1)
            case measure => omega
            case rel => exact ⟨j, { st1 with e := er }, rfl, HF2, ⟨HL1.out.set_e er⟩, ⟨HB1.out.setCell hg _⟩, ⟨HE1.out.set 6 _⟩⟩
        · have he0 : (st'.e == 0) = false := beq_eq_false_iff_ne.mpr he
          have HE0 := Lib.hid he
          clear he
          go_wp2
          go_quiet (fail)
          go_wp2
          go_ret2
          exact HF.out.post (.inr (.inl HE0.out)) HL.out HB.out HE.out _
    · have hje : Hid (j = s.size) := by show j = s.size; omega
      go_wp2
      go_quiet (fail)
      go_wp2
      go_ret2
      exact HF.out.post (.inr (.inr hje.out)) HL.out HB.out HE.out _
end Go.Proofs.Ytabegfdmmjhfdaa.Q
