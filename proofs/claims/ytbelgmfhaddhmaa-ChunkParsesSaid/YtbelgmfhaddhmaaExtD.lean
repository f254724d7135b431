/- The contracts of the cursor's methods: New, Left, Done, take, span, Byte, Skip, Token, Until. -/
import Derived.Test.YtbelgmfhaddhmaaExtC
import Derived.IntWalk
import Derived.Deep.QuietTactic
import Derived.BigQuiet
namespace Go.Proofs.Ytbelgmfhaddhmaa.Q
open Go.RowKit Go.Proofs.YtbelgmfhaddhmaaW.PrintWords
set_option linter.unusedVariables false

/-- What a method leaves alone: all but the cursor's block. -/
structure Eff (g : Nat) (w w' : World) : Prop where
  size : w.heap.size ≤ w'.heap.size
  os : w'.os = w.os
  tape : w'.tape = w.tape
  output : w'.output = w.output
  block : ∀ k, k < w.heap.size → k ≠ g → w'.heap[k]? = w.heap[k]?
theorem Eff.refl (g : Nat) (w : World) : Eff g w w := ⟨Nat.le_refl _, rfl, rfl, rfl, fun _ _ _ => rfl⟩
theorem Eff.of_below {g : Nat} {w w' : World} (h : Below w.heap.size w w') : Eff g w w' := ⟨h.size, h.os, h.tape, h.output, fun k hk _ => h.block k hk⟩
theorem Eff.trans {g : Nat} {a b c : World} (h : Eff g a b) (k : Eff g b c) : Eff g a c :=
  ⟨Nat.le_trans h.size k.size, k.os.trans h.os, k.tape.trans h.tape, k.output.trans h.output, fun i hi hg => (k.block i (Nat.lt_of_lt_of_le hi h.size) hg).trans (h.block i hi hg)⟩
theorem Eff.set {g : Nat} {a b : World} (h : Eff g a b) (j : Nat) (u : Value) : Eff g a (b.setCell ⟨g, j, none⟩ u) :=
  h.trans ⟨by simp [World.setCell], rfl, rfl, rfl, fun k hk hg => Below.heap_setCell b ⟨g, j, none⟩ u k hg⟩
theorem Eff.below {B g : Nat} {a w w' : World} (h : Eff g w w') (hb : Below B a w) (hB : B ≤ w.heap.size) (hg : B ≤ g) : Below B a w' :=
  ⟨h.os.trans hb.os, h.tape.trans hb.tape, h.output.trans hb.output, Nat.le_trans hb.size h.size, fun k hk => by
    rw [h.block k (by omega) (by omega), hb.block k hk]⟩
/-- A cursor at block g, and what is left. -/
def CurL (w : World) (g : Nat) (L : ByteArray) : Prop := ∃ (s : ByteArray) (n : Nat), w.heap[g]? = some (.cells #[.string s, .int .i64 (n : Int)] 87 (0, 0)) ∧ n ≤ s.size ∧ s.size ≤ 140737488351232 ∧ s.extract n s.size = L
theorem CurL.below {w w' : World} {g : Nat} {L : ByteArray} (h : CurL w g L) (hb : Below w.heap.size w w') : CurL w' g L := by
  obtain ⟨s, n, hg, hr⟩ := h
  exact ⟨s, n, (hb.block g (blk_lt hg)).trans hg, hr⟩
theorem CurL.lt {w : World} {g : Nat} {L : ByteArray} (h : CurL w g L) : g < w.heap.size := by
  obtain ⟨s, n, hg, hr⟩ := h
  exact blk_lt hg
theorem CurL.size {w : World} {g : Nat} {L : ByteArray} (h : CurL w g L) : L.size ≤ 140737488351232 := by
  obtain ⟨s, n, hg, h1, h2, rfl⟩ := h
  rw [ByteArray.size_extract]; omega
theorem cur_cells {w : World} {g : Nat} {s : ByteArray} {n : Int} (h : w.heap[g]? = some (.cells #[.string s, .int .i64 n] 87 (0, 0))) : w.cell? ⟨g, 0, none⟩ = some (.string s) ∧ w.cell? ⟨g, 1, none⟩ = some (.int .i64 n) :=
  ⟨(blk_cell h 0).trans rfl, (blk_cell h 1).trans rfl⟩
theorem cut_cut (s : ByteArray) (n k : Nat) (hn : n ≤ s.size) : (s.extract n s.size).extract k (s.extract n s.size).size = s.extract (n + k) s.size := by
  apply ByteArray.ext
  rw [ByteArray.data_extract, ByteArray.data_extract, ByteArray.data_extract, ByteArray.size_extract]
  apply Array.ext'
  simp [Array.toList_extract, List.extract]
  congr 1
  omega
def ofs (L : ByteArray) (k : Nat) : ByteArray := L.extract k L.size
def upto (L : ByteArray) (k : Nat) : ByteArray := L.extract 0 k
set_option maxHeartbeats 1000000 in
theorem new_any (s : ByteArray) (hs : s.size ≤ 140737488351232) (w : World) : Calls Try.prog 50 #[.string s] w fun e w' => e = .returned (.pointer (some ⟨w.heap.size, 0, none⟩)) ∧ CurL w' w.heap.size s ∧ Below w.heap.size w w' := by
  go_enter Try.func50, Try.ntmps50
  go_wp2
  go_ret
  exact ⟨rfl, ⟨s, 0, blk_new _ _, Nat.zero_le _, hs, by rw [ByteArray.extract_zero_size]⟩, below_alloc (Below.refl _ _) _⟩
set_option maxHeartbeats 1000000 in
theorem left_any (w : World) (g : Nat) (L : ByteArray) (h : CurL w g L) : Calls Try.prog 52 #[.pointer (some ⟨g, 0, none⟩)] w fun e w' => e = .returned (.string L) ∧ Below w.heap.size w w' := by
  obtain ⟨s, n, hg, hn, hs, hL⟩ := h
  have HL := Lib.hid hL
  obtain ⟨c0, c1⟩ := cur_cells hg
  have hn1 : (0 : Int) ≤ (n : Int) := by omega
  have hn2 : (n : Int) ≤ (s.size : Int) := by omega
  clear hg hL
  go_enter Try.func52, Try.ntmps52
  go_wp2
  go_quiet (fail)
  go_wp2
  go_ret
  exact ⟨by rw [← HL.out]; rfl, pw_below_drewN (Below.refl _ _) _⟩
set_option maxHeartbeats 1000000 in
theorem left_nil (w : World) : Calls Try.prog 52 #[.pointer none] w fun e w' => e = .returned (.string ⟨#[]⟩) ∧ Below w.heap.size w w' := by
  go_enter Try.func52, Try.ntmps52
  go_wp2
  go_ret
  exact ⟨rfl, Below.refl _ _⟩
set_option maxHeartbeats 1000000 in
theorem done_any (w : World) (g : Nat) (L : ByteArray) (h : CurL w g L) : Calls Try.prog 61 #[.pointer (some ⟨g, 0, none⟩)] w fun e w' => e = .returned (.bool (L.toList.isEmpty)) ∧ Below w.heap.size w w' := by
  go_enter Try.func61, Try.ntmps61
  go_wp2_with fail
  refine (left_any _ _ _ h).mono ?_
  rintro e w1 ⟨rfl, hb⟩
  go_wp2
  go_ret
  exact ⟨rfl, hb⟩
set_option maxHeartbeats 1000000 in
theorem done_nil (w : World) : Calls Try.prog 61 #[.pointer none] w fun e w' => e = .returned (.bool true) ∧ Below w.heap.size w w' := by
  go_enter Try.func61, Try.ntmps61
  go_wp2_with fail
  refine (left_nil _).mono ?_
  rintro e w1 ⟨rfl, hb⟩
  go_wp2
  go_ret
  exact ⟨rfl, hb⟩
set_option maxHeartbeats 1000000 in
theorem take_any (w : World) (g : Nat) (L : ByteArray) (h : CurL w g L) (k : Nat) (hk : k ≤ L.size) : Calls Try.prog 91 #[.pointer (some ⟨g, 0, none⟩), .int .i64 (k : Int)] w fun e w' => e = .returned (.string (upto L k)) ∧ CurL w' g (ofs L k) ∧ Eff g w w' := by
  have hk1 : (0 : Int) ≤ (k : Int) := by omega
  have hk2 : (k : Int) ≤ (L.size : Int) := by omega
  by_cases hz : k = 0
  · subst hz
    go_enter Try.func91, Try.ntmps91
    go_wp2_with fail
    refine (left_any _ _ _ h).mono ?_
    rintro e w1 ⟨rfl, hb⟩
    go_wp2
    go_ret
    refine ⟨by rw [show upto L 0 = ByteArray.empty by simp [upto]]; rfl, ?_, Eff.of_below hb⟩
    rw [ofs, ByteArray.extract_zero_size]
    exact h.below hb
  · have hp : (k : Int) > 0 := by omega
    go_enter Try.func91, Try.ntmps91
    go_wp2_with fail
    refine (left_any _ _ _ h).mono ?_
    rintro e w1 ⟨rfl, hb⟩
    obtain ⟨s, n, hg, hn, hs, hL⟩ := h.below hb
    have HL := Lib.hid hL
    have HG := Aside0.mk hg
    have HS := Aside0.mk hs
    have HB := Aside0.mk hb
    have HN := Aside0.mk hn
    have HZ := Aside0.mk hk
    have HH := Aside0.mk h
    obtain ⟨c0, c1⟩ := cur_cells hg
    have f1 := blk_frozen hg 1
    have hw : wrap64 ((n : Int) + (k : Int)) = ((n + k : Nat) : Int) := by
      have hLs : L.size = s.size - n := by rw [← hL, ByteArray.size_extract]; omega
      rw [IntWalk.wrap64_in _ ⟨by omega, by omega⟩]; omega
    have HW := Lib.hid hw
    clear hg hL hb h hs hn hk hw
    go_wp2
    go_ret
    refine ⟨rfl, ⟨s, n + k, ?_, ?_, HS.out, ?_⟩, (Eff.of_below HB.out).set 1 _⟩
    · rw [HW.out]; exact blk_set HG.out 1 _
    · have e := congrArg ByteArray.size HL.out
      rw [ByteArray.size_extract] at e
      have := HN.out
      have := HZ.out
      omega
    · rw [← cut_cut s n k HN.out, HL.out]; rfl

/-- How many octets come next that are so. -/
def spn (p : Int → Bool) (L : ByteArray) : Nat := ((bytesOf L).takeWhile p).length
theorem spn_le (p : Int → Bool) (L : ByteArray) : spn p L ≤ L.size := by
  rw [← bytesOf_length]; exact (List.takeWhile_sublist p).length_le
/-- So far all are so. -/
def SpanAt (p : Int → Bool) (L : ByteArray) (i : Nat) : Prop := i ≤ L.size ∧ spn p L = i + (((bytesOf L).drop i).takeWhile p).length
theorem SpanAt.zero (p : Int → Bool) (L : ByteArray) : SpanAt p L 0 := ⟨Nat.zero_le _, by rw [List.drop_zero, Nat.zero_add]; rfl⟩
theorem drop_bt (s : ByteArray) (i : Nat) (h : i < s.size) : (bytesOf s).drop i = bt s (i : Int) :: (bytesOf s).drop (i + 1) := by
  have hl : i < (bytesOf s).length := by rw [bytesOf_length]; exact h
  rw [List.drop_eq_getElem_cons hl, ← rd_bytesOf, rd, Int.toNat_natCast, List.getD_eq_getElem?_getD, List.getElem?_eq_getElem hl]; rfl
theorem SpanAt.step {p : Int → Bool} {L : ByteArray} {i : Nat} (h : SpanAt p L i) (hi : i < L.size) (hp : p (bt L (i : Int)) = true) : SpanAt p L (i + 1) := by
  refine ⟨hi, ?_⟩
  rw [h.2, drop_bt L i hi, List.takeWhile_cons, if_pos hp, List.length_cons]; omega
theorem SpanAt.stop {p : Int → Bool} {L : ByteArray} {i : Nat} (h : SpanAt p L i) (hi : i < L.size) (hp : p (bt L (i : Int)) = false) : spn p L = i := by
  rw [h.2, drop_bt L i hi, List.takeWhile_cons, if_neg (by rw [hp]; simp)]; rfl
theorem SpanAt.over {p : Int → Bool} {L : ByteArray} {i : Nat} (h : SpanAt p L i) (hi : ¬ i < L.size) : spn p L = i := by
  rw [h.2, List.drop_eq_nil_of_le (by rw [bytesOf_length]; omega)]; rfl
/-- Is it a blank, or a tab? -/
def blI (x : Int) : Bool := x == 32 || x == 9
set_option maxHeartbeats 1000000 in
theorem skip1_any (x : Int) (w : World) : Calls Try.prog 93 #[.int .u8 x] w fun e w' => e = .returned (.bool (blI x)) ∧ Below w.heap.size w w' := by
  by_cases h : x = 32
  · subst h
    go_enter Try.func93, Try.ntmps93
    go_wp2
    go_ret
    exact ⟨rfl, Below.refl _ _⟩
  · have h1 : (x == 32) = false := beq_eq_false_iff_ne.mpr h
    have e : blI x = (x == 9) := by rw [blI, h1, Bool.false_or]
    rw [e]
    clear e h
    go_enter Try.func93, Try.ntmps93
    go_wp2
    go_ret
    exact ⟨rfl, Below.refl _ _⟩
/-- Is it another octet? -/
def neI (b x : Int) : Bool := x != b
set_option maxHeartbeats 1000000 in
theorem until1_any (x b : Int) (w : World) (gb : Nat) (h : w.cell? ⟨gb, 0, none⟩ = some (.int .u8 b)) : Calls Try.prog 94 #[.int .u8 x, .pointer (some ⟨gb, 0, none⟩)] w fun e w' => e = .returned (.bool (neI b x)) ∧ Below w.heap.size w w' := by
  go_enter Try.func94, Try.ntmps94
  go_wp2
  go_ret
  exact ⟨rfl, Below.refl _ _⟩
theorem tchar_f (L : ByteArray) (i : Int) : octet_Tchar.f (bt L i) = some (tcI (bt L i)) := by
  unfold octet_Tchar.f; rw [if_pos (bt_range L i)]

set_option maxHeartbeats 2000000 in
theorem span_tchar (w : World) (g : Nat) (L : ByteArray) (h : CurL w g L) : Calls Try.prog 92 #[.pointer (some ⟨g, 0, none⟩), (.func (.func 33) #[] #[])] w fun e w' => e = .returned (.int .i64 ((spn tcI L : Nat) : Int)) ∧ Below w.heap.size w w' := by
  have hz := h.size
  go_enter Try.func92, Try.ntmps92
  go_wp2_with fail
  refine (left_any _ _ _ h).mono ?_
  rintro e w1 ⟨rfl, hb⟩
  have HB0 := Aside0.mk hb
  have HZ := Aside0.mk hz
  clear hb h hz
  go_wp2
  go_loopg [6] L.size (fun k v wr => ∃ i : Nat, v = .int .i64 (i : Int) ∧ Aside0 (L.size - i ≤ k) ∧ Aside0 (SpanAt tcI L i) ∧ Aside0 (Below w.heap.size w wr))
  case atStart => exact ⟨0, rfl, ⟨Nat.le_refl _⟩, ⟨SpanAt.zero _ _⟩, HB0⟩
  case round =>
    obtain ⟨i, rfl, HK, HS, HB⟩ := hrel
    have hki := HK.out
    have hzz := HZ.out
    by_cases hlt : i < L.size
    · have hlt0 : (0 : Int) ≤ (i : Int) := by omega
      have hlt2 : (i : Int) < (L.size : Int) := by omega
      have hx : ∀ h : i < L.size, ((L[i]'h).toNat : Int) = bt L (i : Int) := fun h => bt_at L (i : Int) h
      have hw : wrap64 ((i : Int) + 1) = ((i + 1 : Nat) : Int) := by rw [IntWalk.wrap64_in _ ⟨by omega, by omega⟩]; omega
      have HW := Lib.hid hw
      clear hw hzz
      go_wp2_with fail
      refine (octet_Tchar.calls _ _ _ (tchar_f L (i : Int))).mono ?_
      rintro e w2 ⟨rfl, hb⟩
      have HB2 := Aside0.mk (below_step HB.out hb)
      clear hb hx
      cases hp : tcI (bt L (i : Int)) with
      | true =>
        have HS2 := Aside0.mk (HS.out.step hlt hp)
        clear hp
        go_wp2
        go_roundg (gk - 1)
        case measure => omega
        case rel => exact ⟨i + 1, by rw [← HW.out], ⟨by omega⟩, HS2, HB2⟩
      | false =>
        have HF := Lib.hid (HS.out.stop hlt hp)
        clear hp
        go_wp2
        go_ret
        exact ⟨by rw [HF.out]; rfl, HB2.out⟩
    · have hlt2 : ¬ (i : Int) < (L.size : Int) := by omega
      have HF := Lib.hid (HS.out.over hlt)
      go_wp2
      go_ret
      exact ⟨by rw [HF.out]; rfl, HB.out⟩

set_option maxHeartbeats 2000000 in
theorem span_skip1 (w : World) (g : Nat) (L : ByteArray) (h : CurL w g L) : Calls Try.prog 92 #[.pointer (some ⟨g, 0, none⟩), (.func (.func 93) #[] #[])] w fun e w' => e = .returned (.int .i64 ((spn blI L : Nat) : Int)) ∧ Below w.heap.size w w' := by
  have hz := h.size
  go_enter Try.func92, Try.ntmps92
  go_wp2_with fail
  refine (left_any _ _ _ h).mono ?_
  rintro e w1 ⟨rfl, hb⟩
  have HB0 := Aside0.mk hb
  have HZ := Aside0.mk hz
  clear hb h hz
  go_wp2
  go_loopg [6] L.size (fun k v wr => ∃ i : Nat, v = .int .i64 (i : Int) ∧ Aside0 (L.size - i ≤ k) ∧ Aside0 (SpanAt blI L i) ∧ Aside0 (Below w.heap.size w wr))
  case atStart => exact ⟨0, rfl, ⟨Nat.le_refl _⟩, ⟨SpanAt.zero _ _⟩, HB0⟩
  case round =>
    obtain ⟨i, rfl, HK, HS, HB⟩ := hrel
    have hki := HK.out
    have hzz := HZ.out
    by_cases hlt : i < L.size
    · have hlt0 : (0 : Int) ≤ (i : Int) := by omega
      have hlt2 : (i : Int) < (L.size : Int) := by omega
      have hx : ∀ h : i < L.size, ((L[i]'h).toNat : Int) = bt L (i : Int) := fun h => bt_at L (i : Int) h
      have hw : wrap64 ((i : Int) + 1) = ((i + 1 : Nat) : Int) := by rw [IntWalk.wrap64_in _ ⟨by omega, by omega⟩]; omega
      have HW := Lib.hid hw
      clear hw hzz
      go_wp2_with fail
      refine (skip1_any _ _).mono ?_
      rintro e w2 ⟨rfl, hb⟩
      have HB2 := Aside0.mk (below_step HB.out hb)
      clear hb hx
      cases hp : blI (bt L (i : Int)) with
      | true =>
        have HS2 := Aside0.mk (HS.out.step hlt hp)
        clear hp
        go_wp2
        go_roundg (gk - 1)
        case measure => omega
        case rel => exact ⟨i + 1, by rw [← HW.out], ⟨by omega⟩, HS2, HB2⟩
      | false =>
        have HF := Lib.hid (HS.out.stop hlt hp)
        clear hp
        go_wp2
        go_ret
        exact ⟨by rw [HF.out]; rfl, HB2.out⟩
    · have hlt2 : ¬ (i : Int) < (L.size : Int) := by omega
      have HF := Lib.hid (HS.out.over hlt)
      go_wp2
      go_ret
      exact ⟨by rw [HF.out]; rfl, HB.out⟩

set_option maxHeartbeats 2000000 in
theorem span_until1 (w : World) (g : Nat) (L : ByteArray) (h : CurL w g L) (b : Int) (gb : Nat) (hgb : w.heap[gb]? = some (.cells #[.int .u8 b] 5 (0, 0))) : Calls Try.prog 92 #[.pointer (some ⟨g, 0, none⟩), (.func (.func 94) #[] #[.pointer (some ⟨gb, 0, none⟩)])] w fun e w' => e = .returned (.int .i64 ((spn (neI b) L : Nat) : Int)) ∧ Below w.heap.size w w' := by
  have hz := h.size
  go_enter Try.func92, Try.ntmps92
  go_wp2_with fail
  refine (left_any _ _ _ h).mono ?_
  rintro e w1 ⟨rfl, hb⟩
  have HB0 := Aside0.mk hb
  have HZ := Aside0.mk hz
  clear hb h hz
  go_wp2
  go_loopg [6] L.size (fun k v wr => ∃ i : Nat, v = .int .i64 (i : Int) ∧ Aside0 (L.size - i ≤ k) ∧ Aside0 (SpanAt (neI b) L i) ∧ Aside0 (Below w.heap.size w wr))
  case atStart => exact ⟨0, rfl, ⟨Nat.le_refl _⟩, ⟨SpanAt.zero _ _⟩, HB0⟩
  case round =>
    obtain ⟨i, rfl, HK, HS, HB⟩ := hrel
    have hki := HK.out
    have hzz := HZ.out
    by_cases hlt : i < L.size
    · have hlt0 : (0 : Int) ≤ (i : Int) := by omega
      have hlt2 : (i : Int) < (L.size : Int) := by omega
      have hx : ∀ h : i < L.size, ((L[i]'h).toNat : Int) = bt L (i : Int) := fun h => bt_at L (i : Int) h
      have hw : wrap64 ((i : Int) + 1) = ((i + 1 : Nat) : Int) := by rw [IntWalk.wrap64_in _ ⟨by omega, by omega⟩]; omega
      have HW := Lib.hid hw
      have hb0 : wr.cell? ⟨gb, 0, none⟩ = some (.int .u8 b) := (blk_cell ((HB.out.block gb (blk_lt hgb)).trans hgb) 0).trans rfl
      clear hw hzz
      go_wp2_with fail
      refine (until1_any _ _ _ _ hb0).mono ?_
      rintro e w2 ⟨rfl, hb⟩
      have HB2 := Aside0.mk (below_step HB.out hb)
      clear hb hx hb0
      cases hp : (neI b) (bt L (i : Int)) with
      | true =>
        have HS2 := Aside0.mk (HS.out.step hlt hp)
        clear hp
        go_wp2
        go_roundg (gk - 1)
        case measure => omega
        case rel => exact ⟨i + 1, by rw [← HW.out], ⟨by omega⟩, HS2, HB2⟩
      | false =>
        have HF := Lib.hid (HS.out.stop hlt hp)
        clear hp
        go_wp2
        go_ret
        exact ⟨by rw [HF.out]; rfl, HB2.out⟩
    · have hlt2 : ¬ (i : Int) < (L.size : Int) := by omega
      have HF := Lib.hid (HS.out.over hlt)
      go_wp2
      go_ret
      exact ⟨by rw [HF.out]; rfl, HB.out⟩
end Go.Proofs.Ytbelgmfhaddhmaa.Q
