/- The contracts of package octet: all, Token, Value, Visible, Tchar. -/
import Derived.Test.YtbelgmfhaddhmaaExtA
namespace Go.Proofs.Ytbelgmfhaddhmaa.Q
open Go.RowKit Go.Proofs.YtbelgmfhaddhmaaW.PrintWords
set_option linter.unusedVariables false

theorem get_nat (s : ByteArray) (j : Nat) (h : j < s.size) : (s.get! j).toNat = (s[j]'h).toNat := by
  simp [ByteArray.get!, getElem!_pos, h]
  rfl
/-- What a rune beyond 127 is made of: octets beyond 127. -/
theorem cover (s : ByteArray) (pos : Nat) (h : pos < s.size) (ha : 128 ≤ (s[pos]'h).toNat) : ∀ j, pos ≤ j → j < pos + (Utf8.decode s pos).2 → ∃ hj : j < s.size, 128 ≤ (s[j]'hj).toNat := by
  intro j h0 h1
  by_cases e0 : j = pos
  · subst e0; exact ⟨h, ha⟩
  · rw [Lib.decode_at] at h1
    have hb : (s.get! pos).toNat = (s[pos]'h).toNat := get_nat s pos h
    rw [hb] at h1
    have key : ∀ d, 1 ≤ d → d < s.size - pos → (s.get! (pos + d)).toNat / 64 = 2 → j = pos + d → ∃ hj : j < s.size, 128 ≤ (s[j]'hj).toNat := by
      intro d hd hlt hq he
      have hj : j < s.size := by omega
      refine ⟨hj, ?_⟩
      subst he
      rw [get_nat s (pos + d) hj] at hq
      omega
    unfold Lib.decodeN at h1
    rw [if_neg (by omega)] at h1
    split at h1
    · rename_i c
      split at h1
      · exact key 1 (by omega) c.2.1 c.2.2 (by simp at h1; omega)
      · simp at h1; omega
    · split at h1
      · rename_i c
        split at h1
        · simp at h1
          by_cases e1 : j = pos + 1
          · exact key 1 (by omega) c.2.1.1 c.2.1.2 e1
          · exact key 2 (by omega) c.2.2.1 c.2.2.2 (by omega)
        · simp at h1; omega
      · split at h1
        · rename_i c
          split at h1
          · simp at h1
            by_cases e1 : j = pos + 1
            · exact key 1 (by omega) c.2.1.1 c.2.1.2 e1
            · by_cases e2 : j = pos + 2
              · exact key 2 (by omega) c.2.2.1.1 c.2.2.1.2 e2
              · exact key 3 (by omega) c.2.2.2.1 c.2.2.2.2 (by omega)
          · simp at h1; omega
        · simp at h1; omega
theorem bytes_at (s : ByteArray) (j : Nat) (h : j < s.size) : (bytesOf s)[j]? = some ((s[j]'h).toNat : Int) := by
  have h' : j < s.data.toList.length := by rw [data_length]; exact h
  simp [bytesOf, List.getElem?_eq_getElem h']
  rfl
/-- So far all octets are so. -/
def SoFar (p : Int → Bool) (s : ByteArray) (pos : Nat) : Prop := pos ≤ s.size ∧ ∀ j, j < pos → ∀ h : j < s.size, p ((s[j]'h).toNat : Int) = true
theorem SoFar.step {p : Int → Bool} {s : ByteArray} {pos : Nat} (h : SoFar p s pos) (hp : ∀ r, 128 ≤ r → p r = p 128) (hlt : pos < s.size) (hr : p ((Utf8.decode s pos).1 : Int) = true) : SoFar p s (pos + (Utf8.decode s pos).2) := by
  by_cases ha : (s[pos]'hlt).toNat < 128
  · rw [decode_ascii s pos hlt ha] at hr ⊢
    refine ⟨by show pos + 1 ≤ s.size; omega, fun j hj hjs => ?_⟩
    have hj : j < pos + 1 := hj
    by_cases e : j = pos
    · subst e; exact hr
    · exact h.2 j (by omega) hjs
  · have ha : 128 ≤ (s[pos]'hlt).toNat := by omega
    have hd := decode_high s pos hlt ha
    have hc := cover s pos hlt ha
    rw [hp _ (by omega)] at hr
    refine ⟨?_, fun j hj hjs => ?_⟩
    · obtain ⟨hj, _⟩ := hc (pos + (Utf8.decode s pos).2 - 1) (by omega) (by omega)
      omega
    · by_cases e : j < pos
      · exact h.2 j e hjs
      · obtain ⟨_, h2⟩ := hc j (by omega) hj
        rw [hp _ (by omega)]; exact hr
theorem SoFar.over {p : Int → Bool} {s : ByteArray} {pos : Nat} (h : SoFar p s pos) (hlt : ¬ pos < s.size) : (bytesOf s).all p = true := by
  rw [List.all_eq_true]
  intro x hx
  obtain ⟨j, hj, rfl⟩ := List.getElem_of_mem hx
  have hj' : j < s.size := by rw [bytesOf_length] at hj; exact hj
  have e := bytes_at s j hj'
  rw [List.getElem?_eq_getElem hj] at e
  rw [Option.some.inj e]
  exact h.2 j (by omega) hj'
theorem SoFar.fail {p : Int → Bool} {s : ByteArray} {pos : Nat} (hp : ∀ r, 128 ≤ r → p r = p 128) (hlt : pos < s.size) (hr : p ((Utf8.decode s pos).1 : Int) = false) : (bytesOf s).all p = false := by
  rw [Bool.eq_false_iff]
  intro hall
  rw [List.all_eq_true] at hall
  have hm := hall ((s[pos]'hlt).toNat : Int) (List.mem_of_getElem? (bytes_at s pos hlt))
  by_cases ha : (s[pos]'hlt).toNat < 128
  · rw [decode_ascii s pos hlt ha] at hr
    rw [hm] at hr; cases hr
  · have hd := decode_high s pos hlt (by omega)
    rw [hp _ (by omega)] at hr
    rw [hp _ (by omega), hr] at hm; cases hm

theorem Below.iterAt_far {B k : Nat} {a w : World} (h : Below B a w) (hk : B ≤ k) (s : ByteArray) (pos : Nat) : Below B a (w.iterAt k s pos) := Lib.below_iterAt h hk s pos
/-- May an octet stand in a value? -/
def vaI (r : Int) : Bool := decide (r = 9) || (decide (32 ≤ r) && !decide (r = 127))
/-- Is an octet visible? -/
def viI (r : Int) : Bool := decide (32 < r) && decide (r < 127)
theorem tcI_high (r : Int) (h : 128 ≤ r) : tcI r = tcI 128 := by
  have e : ∀ r : Int, 128 ≤ r → tcI r = false := by
    intro r h
    have e1 : (decide (97 ≤ r) && decide (r ≤ 122)) = false := by rw [Bool.eq_false_iff]; simp; omega
    have e2 : (decide (65 ≤ r) && decide (r ≤ 90)) = false := by rw [Bool.eq_false_iff]; simp; omega
    have e3 : (decide (48 ≤ r) && decide (r ≤ 57)) = false := by rw [Bool.eq_false_iff]; simp; omega
    have e4 : markB r = false := by
      rw [markB, Bool.eq_false_iff]
      intro hc
      rw [List.contains_iff_mem] at hc
      have h2 : ∀ x ∈ marksL, x < 128 := by decide
      have := h2 r hc
      omega
    rw [tcI, e1, e2, e3, e4]; rfl
  rw [e r h, e 128 (by omega)]
theorem vaI_high (r : Int) (h : 128 ≤ r) : vaI r = vaI 128 := by
  have e : ∀ r : Int, 128 ≤ r → vaI r = true := by
    intro r h
    rw [vaI, decide_eq_true (show 32 ≤ r by omega), decide_eq_false (show ¬ r = 127 by omega)]; simp
  rw [e r h, e 128 (by omega)]
theorem viI_high (r : Int) (h : 128 ≤ r) : viI r = viI 128 := by
  have e : ∀ r : Int, 128 ≤ r → viI r = false := by
    intro r h
    rw [viI, decide_eq_false (show ¬ r < 127 by omega)]; simp
  rw [e r h, e 128 (by omega)]
set_option maxHeartbeats 400000 in
theorem visible1_any (r : Int) (w : World) : Calls Try.prog 81 #[.int .i32 r] w fun e w' => e = .returned (.bool (viI r)) ∧ Below w.heap.size w w' := by
  by_cases h : 32 < r
  · have e : viI r = decide (r < 127) := by rw [viI, decide_eq_true h]; rfl
    rw [e]
    clear e
    go_enter Try.func81, Try.ntmps81
    go_wp2
    go_ret
    exact ⟨rfl, Below.refl _ _⟩
  · have e : viI r = false := by rw [viI, decide_eq_false h]; rfl
    rw [e]
    clear e
    go_enter Try.func81, Try.ntmps81
    go_wp2
    go_ret
    exact ⟨rfl, Below.refl _ _⟩
set_option maxHeartbeats 400000 in
theorem value1_any (r : Int) (w : World) : Calls Try.prog 82 #[.int .i32 r] w fun e w' => e = .returned (.bool (vaI r)) ∧ Below w.heap.size w w' := by
  by_cases h : r = 9
  · subst h
    go_enter Try.func82, Try.ntmps82
    go_wp2
    go_ret
    exact ⟨rfl, Below.refl _ _⟩
  · have h9 : (r == 9) = false := beq_eq_false_iff_ne.mpr h
    by_cases h2 : 32 ≤ r
    · have e : vaI r = (r != 127) := by
        rw [vaI, decide_eq_false h, decide_eq_true h2]
        by_cases h3 : r = 127
        · subst h3; rfl
        · rw [decide_eq_false h3, bne_iff_ne.mpr h3]; rfl
      rw [e]
      clear e h
      go_enter Try.func82, Try.ntmps82
      go_wp2
      go_ret
      exact ⟨rfl, Below.refl _ _⟩
    · have e : vaI r = false := by rw [vaI, decide_eq_false h, decide_eq_false h2]; rfl
      rw [e]
      clear e h
      go_enter Try.func82, Try.ntmps82
      go_wp2
      go_ret
      exact ⟨rfl, Below.refl _ _⟩

set_option maxHeartbeats 2000000 in
set_option maxRecDepth 100000 in
theorem all_tcI (s : ByteArray) (w : World) : Calls Try.prog 79 #[.string s, .func (.func 80) #[] #[]] w fun e w' => e = .returned (.bool ((bytesOf s).all tcI)) ∧ Below w.heap.size w w' := by
  obtain ⟨k0, hk0⟩ : ∃ k0, k0 = w.heap.size := ⟨_, rfl⟩
  have HK0 := Lib.hid hk0
  go_enter Try.func79, Try.ntmps79
  go_wp2
  rw [← HK0.out]
  clear hk0
  go_loopg [] s.size (fun k wr => ∃ pos : Nat, Aside0 (wr.heap[k0]? = some (.stringIter s pos)) ∧ Aside0 (s.size - pos ≤ k) ∧ Aside0 (SoFar tcI s pos) ∧ Aside0 (Below w.heap.size w wr))
  case atStart => exact ⟨0, ⟨by rw [HK0.out]; exact blk_new w _⟩, ⟨by omega⟩, ⟨by omega, fun j hj => by omega⟩, ⟨below_iter _ _⟩⟩
  case round =>
    obtain ⟨pos, HI, HK, HS, HB⟩ := hrel
    have hk := HK.out
    by_cases hp : pos < s.size
    · have hnx : ∀ ty, (Instr.next (.pointer (some ⟨k0, 0, none⟩)) true ty).run Try.prog wr = _ := fun ty => Lib.run_next_any_at wr k0 s pos ty HI.out hp
      obtain ⟨r, hr⟩ : ∃ r, r = Utf8.decode s pos := ⟨_, rfl⟩
      rw [← hr] at hnx
      have HR := Lib.hid hr
      clear hr
      have HI2 := Aside0.mk (Lib.iterAt_heap wr k0 s pos (pos + r.2) HI.out)
      have HB2 := Aside0.mk (Below.iterAt_far (k := k0) HB.out (by rw [HK0.out]; exact Nat.le_refl _) s (pos + r.2))
      have hw : 1 ≤ r.2 := by rw [HR.out]; by_cases ha : (s[pos]'hp).toNat < 128
                              · rw [decode_ascii s pos hp ha]; exact Nat.le_refl _
                              · exact (decode_high s pos hp (by omega)).2
      go_wp2_with fail
      refine (tchar_any _ _).mono ?_
      rintro e w1 ⟨rfl, hb⟩
      have HI3 := Aside0.mk (blk_below HI2.out hb)
      have HB3 := Aside0.mk (below_step HB2.out hb)
      clear hb hnx HI2 HB2
      cases hpr : tcI (r.1 : Int) with
      | false =>
        have HF := Lib.hid (SoFar.fail tcI_high hp (by rw [← HR.out]; exact hpr))
        clear hpr
        go_wp2
        go_ret
        exact ⟨by rw [HF.out]; rfl, HB3.out⟩
      | true =>
        have HS2 := Aside0.mk (HS.out.step tcI_high hp (by rw [← HR.out]; exact hpr))
        clear hpr
        go_wp2
        go_roundg (gk - 1)
        case measure => omega
        case rel =>
          refine ⟨pos + r.2, HI3, ⟨by omega⟩, ?_, HB3⟩
          rw [HR.out]; exact HS2
    · have hnx : ∀ ty, (Instr.next (.pointer (some ⟨k0, 0, none⟩)) true ty).run Try.prog wr = _ := fun ty => Lib.run_next_end_at wr k0 s pos ty HI.out hp
      have HF := Lib.hid (HS.out.over hp)
      go_wp2
      go_ret
      exact ⟨by rw [HF.out]; rfl, HB.out⟩

set_option maxHeartbeats 2000000 in
set_option maxRecDepth 100000 in
theorem all_viI (s : ByteArray) (w : World) : Calls Try.prog 79 #[.string s, .func (.func 81) #[] #[]] w fun e w' => e = .returned (.bool ((bytesOf s).all viI)) ∧ Below w.heap.size w w' := by
  obtain ⟨k0, hk0⟩ : ∃ k0, k0 = w.heap.size := ⟨_, rfl⟩
  have HK0 := Lib.hid hk0
  go_enter Try.func79, Try.ntmps79
  go_wp2
  rw [← HK0.out]
  clear hk0
  go_loopg [] s.size (fun k wr => ∃ pos : Nat, Aside0 (wr.heap[k0]? = some (.stringIter s pos)) ∧ Aside0 (s.size - pos ≤ k) ∧ Aside0 (SoFar viI s pos) ∧ Aside0 (Below w.heap.size w wr))
  case atStart => exact ⟨0, ⟨by rw [HK0.out]; exact blk_new w _⟩, ⟨by omega⟩, ⟨by omega, fun j hj => by omega⟩, ⟨below_iter _ _⟩⟩
  case round =>
    obtain ⟨pos, HI, HK, HS, HB⟩ := hrel
    have hk := HK.out
    by_cases hp : pos < s.size
    · have hnx : ∀ ty, (Instr.next (.pointer (some ⟨k0, 0, none⟩)) true ty).run Try.prog wr = _ := fun ty => Lib.run_next_any_at wr k0 s pos ty HI.out hp
      obtain ⟨r, hr⟩ : ∃ r, r = Utf8.decode s pos := ⟨_, rfl⟩
      rw [← hr] at hnx
      have HR := Lib.hid hr
      clear hr
      have HI2 := Aside0.mk (Lib.iterAt_heap wr k0 s pos (pos + r.2) HI.out)
      have HB2 := Aside0.mk (Below.iterAt_far (k := k0) HB.out (by rw [HK0.out]; exact Nat.le_refl _) s (pos + r.2))
      have hw : 1 ≤ r.2 := by rw [HR.out]; by_cases ha : (s[pos]'hp).toNat < 128
                              · rw [decode_ascii s pos hp ha]; exact Nat.le_refl _
                              · exact (decode_high s pos hp (by omega)).2
      go_wp2_with fail
      refine (visible1_any _ _).mono ?_
      rintro e w1 ⟨rfl, hb⟩
      have HI3 := Aside0.mk (blk_below HI2.out hb)
      have HB3 := Aside0.mk (below_step HB2.out hb)
      clear hb hnx HI2 HB2
      cases hpr : viI (r.1 : Int) with
      | false =>
        have HF := Lib.hid (SoFar.fail viI_high hp (by rw [← HR.out]; exact hpr))
        clear hpr
        go_wp2
        go_ret
        exact ⟨by rw [HF.out]; rfl, HB3.out⟩
      | true =>
        have HS2 := Aside0.mk (HS.out.step viI_high hp (by rw [← HR.out]; exact hpr))
        clear hpr
        go_wp2
        go_roundg (gk - 1)
        case measure => omega
        case rel =>
          refine ⟨pos + r.2, HI3, ⟨by omega⟩, ?_, HB3⟩
          rw [HR.out]; exact HS2
    · have hnx : ∀ ty, (Instr.next (.pointer (some ⟨k0, 0, none⟩)) true ty).run Try.prog wr = _ := fun ty => Lib.run_next_end_at wr k0 s pos ty HI.out hp
      have HF := Lib.hid (HS.out.over hp)
      go_wp2
      go_ret
      exact ⟨by rw [HF.out]; rfl, HB.out⟩

set_option maxHeartbeats 2000000 in
set_option maxRecDepth 100000 in
theorem all_vaI (s : ByteArray) (w : World) : Calls Try.prog 79 #[.string s, .func (.func 82) #[] #[]] w fun e w' => e = .returned (.bool ((bytesOf s).all vaI)) ∧ Below w.heap.size w w' := by
  obtain ⟨k0, hk0⟩ : ∃ k0, k0 = w.heap.size := ⟨_, rfl⟩
  have HK0 := Lib.hid hk0
  go_enter Try.func79, Try.ntmps79
  go_wp2
  rw [← HK0.out]
  clear hk0
  go_loopg [] s.size (fun k wr => ∃ pos : Nat, Aside0 (wr.heap[k0]? = some (.stringIter s pos)) ∧ Aside0 (s.size - pos ≤ k) ∧ Aside0 (SoFar vaI s pos) ∧ Aside0 (Below w.heap.size w wr))
  case atStart => exact ⟨0, ⟨by rw [HK0.out]; exact blk_new w _⟩, ⟨by omega⟩, ⟨by omega, fun j hj => by omega⟩, ⟨below_iter _ _⟩⟩
  case round =>
    obtain ⟨pos, HI, HK, HS, HB⟩ := hrel
    have hk := HK.out
    by_cases hp : pos < s.size
    · have hnx : ∀ ty, (Instr.next (.pointer (some ⟨k0, 0, none⟩)) true ty).run Try.prog wr = _ := fun ty => Lib.run_next_any_at wr k0 s pos ty HI.out hp
      obtain ⟨r, hr⟩ : ∃ r, r = Utf8.decode s pos := ⟨_, rfl⟩
      rw [← hr] at hnx
      have HR := Lib.hid hr
      clear hr
      have HI2 := Aside0.mk (Lib.iterAt_heap wr k0 s pos (pos + r.2) HI.out)
      have HB2 := Aside0.mk (Below.iterAt_far (k := k0) HB.out (by rw [HK0.out]; exact Nat.le_refl _) s (pos + r.2))
      have hw : 1 ≤ r.2 := by rw [HR.out]; by_cases ha : (s[pos]'hp).toNat < 128
                              · rw [decode_ascii s pos hp ha]; exact Nat.le_refl _
                              · exact (decode_high s pos hp (by omega)).2
      go_wp2_with fail
      refine (value1_any _ _).mono ?_
      rintro e w1 ⟨rfl, hb⟩
      have HI3 := Aside0.mk (blk_below HI2.out hb)
      have HB3 := Aside0.mk (below_step HB2.out hb)
      clear hb hnx HI2 HB2
      cases hpr : vaI (r.1 : Int) with
      | false =>
        have HF := Lib.hid (SoFar.fail vaI_high hp (by rw [← HR.out]; exact hpr))
        clear hpr
        go_wp2
        go_ret
        exact ⟨by rw [HF.out]; rfl, HB3.out⟩
      | true =>
        have HS2 := Aside0.mk (HS.out.step vaI_high hp (by rw [← HR.out]; exact hpr))
        clear hpr
        go_wp2
        go_roundg (gk - 1)
        case measure => omega
        case rel =>
          refine ⟨pos + r.2, HI3, ⟨by omega⟩, ?_, HB3⟩
          rw [HR.out]; exact HS2
    · have hnx : ∀ ty, (Instr.next (.pointer (some ⟨k0, 0, none⟩)) true ty).run Try.prog wr = _ := fun ty => Lib.run_next_end_at wr k0 s pos ty HI.out hp
      have HF := Lib.hid (HS.out.over hp)
      go_wp2
      go_ret
      exact ⟨by rw [HF.out]; rfl, HB.out⟩

theorem str_empty {s : ByteArray} (h : (bytesOf s).isEmpty = true) : s.toList = [] := by
  rw [Lib.toList_data]
  have : (bytesOf s) = [] := List.isEmpty_iff.1 h
  unfold bytesOf at this
  exact List.map_eq_nil_iff.1 this
theorem str_full {s : ByteArray} (h : (bytesOf s).isEmpty = false) : s.toList.isEmpty = false := by
  rw [Lib.toList_data]
  cases hs : s.data.toList with
  | nil => unfold bytesOf at h; rw [hs] at h; simp at h
  | cons a b => rfl
def tokenI (s : ByteArray) : Bool := !(bytesOf s).isEmpty && (bytesOf s).all tcI
def visibleI (s : ByteArray) : Bool := !(bytesOf s).isEmpty && (bytesOf s).all viI
def valueI (s : ByteArray) : Bool := (bytesOf s).all vaI
def octet_Token.f (a0 : ByteArray) : Option (Bool) := some (tokenI a0)
def octet_Visible.f (a0 : ByteArray) : Option (Bool) := some (visibleI a0)
def octet_Value.f (a0 : ByteArray) : Option (Bool) := some (valueI a0)
def octet_Tchar.f (a0 : Int) : Option (Bool) := if 0 ≤ a0 ∧ a0 ≤ 255 then some (tcI a0) else none
set_option maxHeartbeats 400000 in
theorem octet_Value.calls (a0 : ByteArray) (r : Bool) (w : World) (h : octet_Value.f a0 = some r) : Calls Try.prog 32 #[.string a0] w fun e w' => e = .returned (.bool r) ∧ Below w.heap.size w w' := by
  obtain rfl := Option.some.inj h
  clear h
  go_enter Try.func32, Try.ntmps32
  go_wp2_with fail
  refine (all_vaI _ _).mono ?_
  rintro e w1 ⟨rfl, hb⟩
  go_wp2
  go_ret
  exact ⟨rfl, hb⟩
set_option maxHeartbeats 400000 in
theorem octet_Tchar.calls (a0 : Int) (r : Bool) (w : World) (h : octet_Tchar.f a0 = some r) : Calls Try.prog 33 #[.int .u8 a0] w fun e w' => e = .returned (.bool r) ∧ Below w.heap.size w w' := by
  unfold octet_Tchar.f at h
  split at h
  · rename_i hb
    obtain rfl := Option.some.inj h
    clear h
    obtain ⟨h0, h1⟩ := hb
    go_enter Try.func33, Try.ntmps33
    go_wp2_with fail
    refine (tchar_any _ _).mono ?_
    rintro e w1 ⟨rfl, hb⟩
    go_wp2
    go_ret
    exact ⟨rfl, hb⟩
  · cases h

set_option maxHeartbeats 400000 in
theorem octet_Token.calls (a0 : ByteArray) (r : Bool) (w : World) (h : octet_Token.f a0 = some r) : Calls Try.prog 30 #[.string a0] w fun e w' => e = .returned (.bool r) ∧ Below w.heap.size w w' := by
  obtain rfl := Option.some.inj h
  clear h
  cases he : (bytesOf a0).isEmpty with
  | true =>
    have hs := str_empty he
    have e : tokenI a0 = false := by rw [tokenI, he]; rfl
    rw [e]
    clear he e
    go_enter Try.func30, Try.ntmps30
    go_wp2
    go_ret
    exact ⟨rfl, Below.refl _ _⟩
  | false =>
    have hs := str_full he
    have e : tokenI a0 = (bytesOf a0).all tcI := by rw [tokenI, he]; rfl
    rw [e]
    clear he e
    go_enter Try.func30, Try.ntmps30
    go_wp2_with fail
    refine (all_tcI _ _).mono ?_
    rintro e w1 ⟨rfl, hb⟩
    go_wp2
    go_ret
    exact ⟨rfl, hb⟩

set_option maxHeartbeats 400000 in
theorem octet_Visible.calls (a0 : ByteArray) (r : Bool) (w : World) (h : octet_Visible.f a0 = some r) : Calls Try.prog 31 #[.string a0] w fun e w' => e = .returned (.bool r) ∧ Below w.heap.size w w' := by
  obtain rfl := Option.some.inj h
  clear h
  cases he : (bytesOf a0).isEmpty with
  | true =>
    have hs := str_empty he
    have e : visibleI a0 = false := by rw [visibleI, he]; rfl
    rw [e]
    clear he e
    go_enter Try.func31, Try.ntmps31
    go_wp2
    go_ret
    exact ⟨rfl, Below.refl _ _⟩
  | false =>
    have hs := str_full he
    have e : visibleI a0 = (bytesOf a0).all viI := by rw [visibleI, he]; rfl
    rw [e]
    clear he e
    go_enter Try.func31, Try.ntmps31
    go_wp2_with fail
    refine (all_viI _ _).mono ?_
    rintro e w1 ⟨rfl, hb⟩
    go_wp2
    go_ret
    exact ⟨rfl, hb⟩
end Go.Proofs.Ytbelgmfhaddhmaa.Q
