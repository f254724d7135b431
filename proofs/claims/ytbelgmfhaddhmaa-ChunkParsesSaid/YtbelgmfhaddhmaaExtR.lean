/- The contracts of what chunk calls: strings.IndexByte, hex, split, digit, number, figures. -/
import Derived.Test.YtbelgmfhaddhmaaExtE
import Derived.Lib.Bytealg
import Derived.Test.YtbelgmfhaddhmaaExtC
import Derived.Test.YtbelgmfhaddhmaaWMore
namespace Go.Proofs.Ytbelgmfhaddhmaa.Q
open Go.RowKit Go.Proofs.YtbelgmfhaddhmaaW.PrintWords Go.Proofs.YtbelgmfhaddhmaaW.PrintMore
attribute [local go_sem] max2_int min2_int max_two min_two max_three min_three max_four min_four
set_option linter.unusedVariables false
set_option linter.unusedSimpArgs false

set_option maxHeartbeats 1000000 in
set_option maxRecDepth 100000 in
theorem lite_any (s : ByteArray) (c : Int) (w : World) : Calls Try.prog 107 #[.string s, .int .u8 c] w fun e w' => e = .returned (.int .i64 (Lib.indexByte s.data.toList c.toNat.toUInt8)) ∧ Below w.heap.size w w' := by
  go_enter Try.func107, Try.ntmps107
  go_wp2
  rw [run_callFunc_extern Try.func112 (by kernel_rfl) (by kernel_rfl) (by kernel_rfl) (e := Extern.BytealgIndexByte.indexByte) (by kernel_rfl), Lib.run_indexByteString]
  simp only [Result.andThen]
  rw [Oper.upon_value]
  go_wp2
  go_ret
  exact ⟨rfl, Below.refl _ _⟩
def strings_IndexByte.f (a0 : ByteArray) (a1 : Int) : Option Int := some (Lib.indexByte a0.data.toList a1.toNat.toUInt8)
set_option maxHeartbeats 1000000 in
theorem strings_IndexByte.calls (a0 : ByteArray) (a1 : Int) (r : Int) (w : World) (h : strings_IndexByte.f a0 a1 = some r) : Calls Try.prog 103 #[.string a0, .int .u8 a1] w fun e w' => e = .returned (.int .i64 r) ∧ Below w.heap.size w w' := by
  obtain rfl := Option.some.inj h
  clear h
  go_enter Try.func103, Try.ntmps103
  go_wp2_with fail
  refine (lite_any _ _ _).mono ?_
  rintro e w1 ⟨rfl, hb⟩
  have HB := Aside0.mk hb
  clear hb
  go_wp2
  go_ret
  exact ⟨rfl, HB.out⟩
/-- Is it a digit to the base 16? -/
def hexI (r : Int) : Bool := (decide (48 ≤ r) && decide (r ≤ 57)) || (decide (97 ≤ r) && decide (r ≤ 102)) || (decide (65 ≤ r) && decide (r ≤ 70))
/-- A digit's value. -/
def dgI (r : Int) : Int := if 48 ≤ r ∧ r ≤ 57 then r - 48 else if 97 ≤ r ∧ r ≤ 102 then r - 87 else if 65 ≤ r ∧ r ≤ 70 then r - 55 else -1
theorem hexI_iff (r : Int) : hexI r = true ↔ (48 ≤ r ∧ r ≤ 57) ∨ (97 ≤ r ∧ r ≤ 102) ∨ (65 ≤ r ∧ r ≤ 70) := by
  simp only [hexI, Bool.or_eq_true, Bool.and_eq_true, decide_eq_true_eq, or_assoc]
set_option maxHeartbeats 1000000 in
theorem hex_any (r : Int) (w : World) : Calls Try.prog 102 #[.int .i32 r] w fun e w' => e = .returned (.bool (hexI r)) ∧ Below w.heap.size w w' := by
  obtain ⟨x, hx⟩ : ∃ x, x = hexI r := ⟨_, rfl⟩
  rw [← hx]
  by_cases h1 : 48 ≤ r
  · by_cases h2 : r ≤ 57
    · obtain rfl : x = true := by rw [hx]; exact (hexI_iff r).2 (by omega)
      clear hx
      go_enter Try.func102, Try.ntmps102
      go_wp2
      go_ret
      exact ⟨rfl, Below.refl _ _⟩
    · by_cases h3 : 97 ≤ r
      · have h5 : 65 ≤ r := by omega
        have h6 : ¬ r ≤ 70 := by omega
        by_cases h4 : r ≤ 102
        · obtain rfl : x = true := by rw [hx]; exact (hexI_iff r).2 (by omega)
          clear hx
          go_enter Try.func102, Try.ntmps102
          go_wp2
          go_ret
          exact ⟨rfl, Below.refl _ _⟩
        · obtain rfl : x = false := by rw [hx, Bool.eq_false_iff]; exact fun h => by have := (hexI_iff r).1 h; omega
          clear hx
          go_enter Try.func102, Try.ntmps102
          go_wp2
          go_ret
          exact ⟨rfl, Below.refl _ _⟩
      · by_cases h5 : 65 ≤ r
        · by_cases h6 : r ≤ 70
          · obtain rfl : x = true := by rw [hx]; exact (hexI_iff r).2 (by omega)
            clear hx
            go_enter Try.func102, Try.ntmps102
            go_wp2
            go_ret
            exact ⟨rfl, Below.refl _ _⟩
          · obtain rfl : x = false := by rw [hx, Bool.eq_false_iff]; exact fun h => by have := (hexI_iff r).1 h; omega
            clear hx
            go_enter Try.func102, Try.ntmps102
            go_wp2
            go_ret
            exact ⟨rfl, Below.refl _ _⟩
        · obtain rfl : x = false := by rw [hx, Bool.eq_false_iff]; exact fun h => by have := (hexI_iff r).1 h; omega
          clear hx
          go_enter Try.func102, Try.ntmps102
          go_wp2
          go_ret
          exact ⟨rfl, Below.refl _ _⟩
  · have h3 : ¬ 97 ≤ r := by omega
    have h5 : ¬ 65 ≤ r := by omega
    obtain rfl : x = false := by rw [hx, Bool.eq_false_iff]; exact fun h => by have := (hexI_iff r).1 h; omega
    clear hx
    go_enter Try.func102, Try.ntmps102
    go_wp2
    go_ret
    exact ⟨rfl, Below.refl _ _⟩
set_option maxHeartbeats 1000000 in
theorem digit_any (r : Int) (w : World) : Calls Try.prog 108 #[.int .i32 r] w fun e w' => e = .returned (.int .i64 (dgI r)) ∧ Below w.heap.size w w' := by
  obtain ⟨x, hx⟩ : ∃ x, x = dgI r := ⟨_, rfl⟩
  rw [← hx]
  by_cases h1 : 48 ≤ r ∧ r ≤ 57
  · obtain rfl : x = r - 48 := by rw [hx, dgI, if_pos h1]
    obtain ⟨h1, h2⟩ := h1
    clear hx
    go_enter Try.func108, Try.ntmps108
    go_wp2
    go_ret
    exact ⟨rfl, Below.refl _ _⟩
  · by_cases h3 : 97 ≤ r ∧ r ≤ 102
    · obtain rfl : x = r - 97 + 10 := by rw [hx, dgI, if_neg h1, if_pos h3]; omega
      obtain ⟨h3, h4⟩ := h3
      have g1 : 48 ≤ r := by omega
      have g2 : ¬ r ≤ 57 := by omega
      clear hx h1
      go_enter Try.func108, Try.ntmps108
      go_wp2
      go_ret
      exact ⟨rfl, Below.refl _ _⟩
    · by_cases h5 : 65 ≤ r ∧ r ≤ 70
      · obtain rfl : x = r - 65 + 10 := by rw [hx, dgI, if_neg h1, if_neg h3, if_pos h5]; omega
        obtain ⟨h5, h6⟩ := h5
        have g1 : 48 ≤ r := by omega
        have g2 : ¬ r ≤ 57 := by omega
        have g3 : ¬ 97 ≤ r := by omega
        clear hx h1 h3
        go_enter Try.func108, Try.ntmps108
        go_wp2
        go_ret
        exact ⟨rfl, Below.refl _ _⟩
      · obtain rfl : x = -1 := by rw [hx, dgI, if_neg h1, if_neg h3, if_neg h5]
        clear hx
        by_cases c1 : 48 ≤ r
        · have c2 : ¬ r ≤ 57 := by omega
          clear h1
          by_cases c3 : 97 ≤ r
          · have c4 : ¬ r ≤ 102 := by omega
            have c5 : 65 ≤ r := by omega
            have c6 : ¬ r ≤ 70 := by omega
            clear h3 h5
            go_enter Try.func108, Try.ntmps108
            go_wp2
            go_ret
            exact ⟨rfl, Below.refl _ _⟩
          · clear h3
            by_cases c5 : 65 ≤ r
            · have c6 : ¬ r ≤ 70 := by omega
              clear h5
              go_enter Try.func108, Try.ntmps108
              go_wp2
              go_ret
              exact ⟨rfl, Below.refl _ _⟩
            · clear h5
              go_enter Try.func108, Try.ntmps108
              go_wp2
              go_ret
              exact ⟨rfl, Below.refl _ _⟩
        · have c3 : ¬ 97 ≤ r := by omega
          have c5 : ¬ 65 ≤ r := by omega
          clear h1 h3 h5
          go_enter Try.func108, Try.ntmps108
          go_wp2
          go_ret
          exact ⟨rfl, Below.refl _ _⟩
theorem dec_hex (s : ByteArray) (pos : Nat) (hp : pos < s.size) : hexI ((Utf8.decode s pos).1 : Int) = hexI (bt s (pos : Int)) ∧ dgI ((Utf8.decode s pos).1 : Int) = dgI (bt s (pos : Int)) ∧ (hexI (bt s (pos : Int)) = true → (Utf8.decode s pos).2 = 1) := by
  have e : ((s[pos]'hp).toNat : Int) = bt s (pos : Int) := bt_at s (pos : Int) hp
  by_cases ha : (s[pos]'hp).toNat < 128
  · rw [decode_ascii s pos hp ha, ← e]
    exact ⟨rfl, rfl, fun _ => rfl⟩
  · have h := (decode_high s pos hp (by omega)).1
    have f : ∀ r : Int, 128 ≤ r → hexI r = false := fun r hr => by rw [Bool.eq_false_iff]; exact fun h => by have := (hexI_iff r).1 h; omega
    have g : ∀ r : Int, 128 ≤ r → dgI r = -1 := fun r hr => by rw [dgI, if_neg (by omega), if_neg (by omega), if_neg (by omega)]
    have e1 : hexI (bt s (pos : Int)) = false := f _ (by rw [← e]; omega)
    rw [e1, f _ (by omega), g _ (by omega), g (bt s (pos : Int)) (by rw [← e]; omega)]
    exact ⟨rfl, rfl, fun h => by cases h⟩
set_option maxHeartbeats 2000000 in
set_option maxRecDepth 100000 in
theorem split_any (s : ByteArray) (hs : s.size ≤ 140737488351232) (w : World) : Calls Try.prog 76 #[.string s] w fun e w' => e = .returned (.tuple #[.string (upto s (spn hexI s)), .string (ofs s (spn hexI s))]) ∧ Below w.heap.size w w' := by
  obtain ⟨k0, hk0⟩ : ∃ k0, k0 = w.heap.size := ⟨_, rfl⟩
  have HK0 := Lib.hid hk0
  go_enter Try.func76, Try.ntmps76
  go_wp2
  rw [← HK0.out]
  clear hk0
  go_loopg [] s.size (fun k wr => ∃ pos : Nat, Aside0 (wr.heap[k0]? = some (.stringIter s pos)) ∧ Aside0 (s.size - pos ≤ k) ∧ Aside0 (SpanAt hexI s pos) ∧ Aside0 (Below w.heap.size w wr))
  case atStart => exact ⟨0, ⟨by rw [HK0.out]; exact blk_new w _⟩, ⟨by omega⟩, ⟨SpanAt.zero _ _⟩, ⟨below_iter _ _⟩⟩
  case round =>
    obtain ⟨pos, HI, HK, HS, HB⟩ := hrel
    have hk := HK.out
    by_cases hp : pos < s.size
    · have hnx : ∀ ty, (Instr.next (.pointer (some ⟨k0, 0, none⟩)) true ty).run Try.prog wr = _ := fun ty => Lib.run_next_any_at wr k0 s pos ty HI.out hp
      obtain ⟨d1, d2, d3⟩ := dec_hex s pos hp
      have D3 := Aside0.mk d3
      obtain ⟨r, hr⟩ : ∃ r, r = Utf8.decode s pos := ⟨_, rfl⟩
      rw [← hr] at hnx d1 D3
      have HI2 := Aside0.mk (Lib.iterAt_heap wr k0 s pos (pos + r.2) HI.out)
      have HB2 := Aside0.mk (Below.iterAt_far (k := k0) HB.out (by rw [HK0.out]; exact Nat.le_refl _) s (pos + r.2))
      clear hr d2 d3
      have HD := Lib.hid d1
      clear d1
      go_wp2_with fail
      refine (hex_any _ _).mono ?_
      rintro e w1 ⟨rfl, hb⟩
      have HI3 := Aside0.mk (blk_below HI2.out hb)
      have HB3 := Aside0.mk (below_step HB2.out hb)
      clear hb hnx HI2 HB2
      rw [HD.out]
      cases hpr : hexI (bt s (pos : Int)) with
      | false =>
        have HF := Lib.hid (HS.out.stop hp hpr)
        have hpI : (pos : Int) ≤ (s.size : Int) := by omega
        clear hpr
        go_wp2
        go_quiet (fail)
        go_wp2
        go_ret2
        exact ⟨by rw [HF.out]; rfl, pw_below_drewN HB3.out _⟩
      | true =>
        have HS2 := Aside0.mk (HS.out.step hp hpr)
        have hr2 := D3.out hpr
        clear hpr
        go_wp2
        go_roundg (gk - 1)
        case measure => omega
        case rel =>
          refine ⟨pos + r.2, HI3, ⟨by omega⟩, ?_, HB3⟩
          rw [hr2]; exact HS2
    · have hnx : ∀ ty, (Instr.next (.pointer (some ⟨k0, 0, none⟩)) true ty).run Try.prog wr = _ := fun ty => Lib.run_next_end_at wr k0 s pos ty HI.out hp
      have hF := HS.out.over hp
      have hle := HS.out.1
      have HF : Hid (upto s (spn hexI s) = s ∧ ofs s (spn hexI s) = ⟨#[]⟩) := Lib.hid (by
        have e : pos = s.size := by omega
        rw [hF, e, upto, ofs]
        exact ⟨ByteArray.extract_zero_size, ByteArray.extract_same⟩)
      clear hF hle
      go_wp2
      go_ret2
      exact ⟨by rw [HF.out.1, HF.out.2]; rfl, HB.out⟩
def chunk_split.f (a0 : ByteArray) : Option (ByteArray × ByteArray) := if a0.size ≤ 140737488351232 then some (upto a0 (spn hexI a0), ofs a0 (spn hexI a0)) else none
theorem chunk_split.calls (a0 : ByteArray) (r1 r2 : ByteArray) (w : World) (h : chunk_split.f a0 = some (r1, r2)) : Calls Try.prog 76 #[.string a0] w fun e w' => e = .returned (.tuple #[.string r1, .string r2]) ∧ Below w.heap.size w w' := by
  unfold chunk_split.f at h
  split at h
  · rename_i hs
    simp only [Option.some.injEq, Prod.mk.injEq] at h
    obtain ⟨rfl, rfl⟩ := h
    exact split_any a0 hs w
  · cases h
/-- What digits say. -/
def valL (l : List Int) : Int := l.foldl (fun a b => a * 16 + dgI b) 0
theorem valL_snoc (l : List Int) (b : Int) : valL (l ++ [b]) = valL l * 16 + dgI b := by simp [valL]
theorem dg_hex {r : Int} (h : hexI r = true) : 0 ≤ dgI r ∧ dgI r ≤ 15 := by
  have := (hexI_iff r).1 h
  unfold dgI
  split
  · omega
  · split
    · omega
    · split
      · omega
      · omega
theorem dg_not {r : Int} (h : hexI r = false) : dgI r = -1 := by
  have : ¬ ((48 ≤ r ∧ r ≤ 57) ∨ (97 ≤ r ∧ r ≤ 102) ∨ (65 ≤ r ∧ r ≤ 70)) := fun h2 => by rw [(hexI_iff r).2 h2] at h; cases h
  rw [dgI, if_neg (by omega), if_neg (by omega), if_neg (by omega)]
/-- What number tells of digits to the base 16. -/
def numP (s : ByteArray) : Int × Int := if s.size = 0 then (0, 2) else if (bytesOf s).all hexI = true then (if valL (bytesOf s) > 2147483647 then (0, 5) else (valL (bytesOf s), 0)) else (0, 3)
/-- Where number's loop stands. -/
structure NumAt (s : ByteArray) (pos : Nat) (n : Int) (over : Bool) : Prop where
  le : pos ≤ s.size
  hex : ((bytesOf s).take pos).all hexI = true
  pos0 : 0 ≤ valL ((bytesOf s).take pos)
  ov : over = decide (valL ((bytesOf s).take pos) > 2147483647)
  val : over = false → n = valL ((bytesOf s).take pos)
theorem NumAt.zero (s : ByteArray) : NumAt s 0 0 false := ⟨Nat.zero_le _, by simp, by simp [valL], by simp [valL], fun _ => by simp [valL]⟩
theorem take_snoc (s : ByteArray) (pos : Nat) (hp : pos < s.size) : (bytesOf s).take (pos + 1) = (bytesOf s).take pos ++ [bt s (pos : Int)] := by
  have hl : pos < (bytesOf s).length := by rw [bytesOf_length]; exact hp
  rw [List.take_succ_eq_append_getElem hl]
  have e := drop_bt s pos hp
  rw [List.drop_eq_getElem_cons hl] at e
  injection e with e1 _
  rw [e1]
theorem NumAt.step {s : ByteArray} {pos : Nat} {n : Int} {over : Bool} (h : NumAt s pos n over) (hp : pos < s.size) (hx : hexI (bt s (pos : Int)) = true) (n' : Int) (over' : Bool)
    (h1 : over = true → over' = true) (h2 : over = false → over' = decide (n * 16 + dgI (bt s (pos : Int)) > 2147483647)) (h3 : over' = false → n' = n * 16 + dgI (bt s (pos : Int))) : NumAt s (pos + 1) n' over' := by
  have hd := dg_hex hx
  have h0 := h.pos0
  have hov := h.ov
  have hval := h.val
  refine ⟨hp, ?_, ?_, ?_, ?_⟩
  · rw [take_snoc s pos hp, List.all_append, h.hex]; simp [hx]
  · rw [take_snoc s pos hp, valL_snoc]; omega
  · rw [take_snoc s pos hp, valL_snoc]
    cases over with
    | true =>
      rw [h1 rfl]
      have : valL ((bytesOf s).take pos) > 2147483647 := of_decide_eq_true hov.symm
      exact (decide_eq_true (by omega)).symm
    | false => rw [h2 rfl, hval rfl]
  · intro ho
    rw [take_snoc s pos hp, valL_snoc]
    cases over with
    | true => rw [h1 rfl] at ho; cases ho
    | false => rw [h3 ho, hval rfl]
theorem NumAt.bad {s : ByteArray} {pos : Nat} (hp : pos < s.size) (hx : hexI (bt s (pos : Int)) = false) : numP s = (0, 3) := by
  rw [numP, if_neg (by omega), if_neg]
  intro hall
  have h := drop_bt s pos hp
  have hm : bt s (pos : Int) ∈ bytesOf s := List.mem_of_mem_drop (by rw [h]; exact List.mem_cons_self)
  rw [List.all_eq_true.1 hall _ hm] at hx
  cases hx
theorem NumAt.over_ {s : ByteArray} {pos : Nat} {n : Int} {over : Bool} (h : NumAt s pos n over) (hp : ¬ pos < s.size) (h0 : s.size ≠ 0) : numP s = if over = true then (0, 5) else (n, 0) := by
  have hle := h.le
  have e : (bytesOf s).take pos = bytesOf s := List.take_of_length_le (by rw [bytesOf_length]; omega)
  have h1 := h.hex
  have h2 := h.ov
  have h3 := h.val
  rw [e] at h1 h2 h3
  rw [numP, if_neg h0, if_pos h1]
  cases over with
  | true => rw [if_pos (of_decide_eq_true h2.symm), if_pos rfl]
  | false => rw [if_neg (of_decide_eq_false h2.symm), if_neg (by simp), h3 rfl]
set_option maxHeartbeats 4000000 in
set_option maxRecDepth 100000 in
theorem number_any (s : ByteArray) (hs : s.size ≤ 140737488351232) (w : World) : Calls Try.prog 104 #[.string s, .int .i64 16, .int .i64 2147483647] w fun e w' => e = .returned (.tuple #[.int .i64 (numP s).1, .int .i64 (numP s).2]) ∧ Below w.heap.size w w' := by
  by_cases h0 : s.size = 0
  · have he : s.toList.isEmpty = true := by
      rw [Lib.toList_data, List.isEmpty_iff]
      exact List.eq_nil_of_length_eq_zero (by rw [data_length]; exact h0)
    have HF := Lib.hid (show numP s = (0, 2) by rw [numP, if_pos h0])
    clear h0
    go_enter Try.func104, Try.ntmps104
    go_wp2
    go_ret2
    exact ⟨by rw [HF.out]; rfl, Below.refl _ _⟩
  · have he : s.toList.isEmpty = false := by
      cases hq : s.toList.isEmpty with
      | false => rfl
      | true => exact absurd (by rw [Lib.toList_data] at hq; have := List.isEmpty_iff.1 hq; have e := data_length s; rw [this] at e; exact e.symm) h0
    have H0 := Aside0.mk h0
    clear h0
    obtain ⟨k0, hk0⟩ : ∃ k0, k0 = w.heap.size := ⟨_, rfl⟩
    have HK0 := Lib.hid hk0
    go_enter Try.func104, Try.ntmps104
    go_wp2
    rw [← HK0.out]
    clear hk0
    go_loopg [8, 9] s.size (fun k v8 v9 wr => ∃ (pos : Nat) (n : Int) (over : Bool), v8 = .int .i64 n ∧ v9 = .bool over ∧ Aside0 (wr.heap[k0]? = some (.stringIter s pos)) ∧ Aside0 (s.size - pos ≤ k) ∧ Aside0 (NumAt s pos n over) ∧ Aside0 (0 ≤ n ∧ n ≤ 2147483647) ∧ Aside0 (Below w.heap.size w wr))
    case atStart => exact ⟨0, 0, false, rfl, rfl, ⟨by rw [HK0.out]; exact blk_new w _⟩, ⟨by omega⟩, ⟨NumAt.zero s⟩, ⟨by omega⟩, ⟨below_iter _ _⟩⟩
    case round =>
      obtain ⟨pos, n, over, rfl, rfl, HI, HK, HS, HN, HB⟩ := hrel
      have hk := HK.out
      obtain ⟨hn0, hn1⟩ := HN.out
      by_cases hp : pos < s.size
      · have hnx : ∀ ty, (Instr.next (.pointer (some ⟨k0, 0, none⟩)) true ty).run Try.prog wr = _ := fun ty => Lib.run_next_any_at wr k0 s pos ty HI.out hp
        obtain ⟨d1, d2, d3⟩ := dec_hex s pos hp
        have D3 := Aside0.mk d3
        obtain ⟨r, hr⟩ : ∃ r, r = Utf8.decode s pos := ⟨_, rfl⟩
        rw [← hr] at hnx d2 D3
        have HI2 := Aside0.mk (Lib.iterAt_heap wr k0 s pos (pos + r.2) HI.out)
        have HB2 := Aside0.mk (Below.iterAt_far (k := k0) HB.out (by rw [HK0.out]; exact Nat.le_refl _) s (pos + r.2))
        clear hr d1 d3
        have HD := Lib.hid d2
        clear d2
        go_wp2_with fail
        refine (digit_any _ _).mono ?_
        rintro e w1 ⟨rfl, hb⟩
        have HI3 := Aside0.mk (blk_below HI2.out hb)
        have HB3 := Aside0.mk (below_step HB2.out hb)
        clear hb hnx HI2 HB2
        rw [HD.out]
        cases hpr : hexI (bt s (pos : Int)) with
        | false =>
          have HF := Lib.hid (NumAt.bad hp hpr)
          rw [dg_not hpr]
          clear hpr
          go_wp2
          go_ret2
          exact ⟨by rw [HF.out]; rfl, HB3.out⟩
        | true =>
          have hr2 := D3.out hpr
          obtain ⟨g0, g1⟩ := dg_hex hpr
          have HST := Aside0.mk (fun n' over' => HS.out.step hp hpr n' over')
          clear hpr D3
          obtain ⟨d, hd⟩ : ∃ d, d = dgI (bt s (pos : Int)) := ⟨_, rfl⟩
          rw [← hd] at g0 g1 HST ⊢
          clear hd
          have q1 : ¬ d < 0 := by omega
          have q2 : ¬ d ≥ 16 := by omega
          cases over with
          | true =>
            go_wp2
            go_roundg (gk - 1)
            case measure => omega
            case rel => exact ⟨pos + 1, n, true, rfl, rfl, by rw [← hr2]; exact HI3, ⟨by omega⟩, ⟨HST.out n true (fun _ => rfl) (fun h => by cases h) (fun h => by cases h)⟩, ⟨hn0, hn1⟩, HB3⟩
          | false =>
            have q3 : decide (2147483647 < d) = false := decide_eq_false (by omega)
            by_cases ho : n * 16 + d > 2147483647
            · have q4 : decide ((2147483647 - d) / 16 < n) = true := decide_eq_true (by omega)
              have HO := Aside0.mk ho
              clear ho
              go_wp2
              go_roundg (gk - 1)
              case measure => omega
              case rel => exact ⟨pos + 1, n, true, rfl, rfl, by rw [← hr2]; exact HI3, ⟨by omega⟩, ⟨HST.out n true (fun h => by cases h) (fun _ => (decide_eq_true (by have := HO.out; omega)).symm) (fun h => by cases h)⟩, ⟨hn0, hn1⟩, HB3⟩
            · have q4 : decide ((2147483647 - d) / 16 < n) = false := decide_eq_false (by omega)
              have HO := Aside0.mk ho
              have q5 : n * 16 ≤ 2147483647 := by omega
              have q6 : n * 16 + d ≤ 2147483647 := by omega
              have q7 : 0 ≤ n * 16 := by omega
              clear ho
              go_wp2
              go_roundg (gk - 1)
              case measure => omega
              case rel => exact ⟨pos + 1, n * 16 + d, false, rfl, rfl, by rw [← hr2]; exact HI3, ⟨by omega⟩, ⟨HST.out _ false (fun h => by cases h) (fun _ => (decide_eq_false (by have := HO.out; omega)).symm) (fun _ => rfl)⟩, ⟨by omega⟩, HB3⟩
      · have hnx : ∀ ty, (Instr.next (.pointer (some ⟨k0, 0, none⟩)) true ty).run Try.prog wr = _ := fun ty => Lib.run_next_end_at wr k0 s pos ty HI.out hp
        have HF := Lib.hid (HS.out.over_ hp H0.out)
        cases over with
        | true =>
          go_wp2
          go_ret2
          exact ⟨by rw [HF.out]; rfl, HB.out⟩
        | false =>
          go_wp2
          go_ret2
          exact ⟨by rw [HF.out]; rfl, HB.out⟩
def digits_number.f (a0 : ByteArray) (a1 a2 : Int) : Option (Int × Int) := if a1 = 16 ∧ a2 = 2147483647 ∧ a0.size ≤ 140737488351232 then some (numP a0) else none
theorem digits_number.calls (a0 : ByteArray) (a1 a2 : Int) (r1 r2 : Int) (w : World) (h : digits_number.f a0 a1 a2 = some (r1, r2)) : Calls Try.prog 104 #[.string a0, .int .i64 a1, .int .i64 a2] w fun e w' => e = .returned (.tuple #[.int .i64 r1, .int .i64 r2]) ∧ Below w.heap.size w w' := by
  unfold digits_number.f at h
  split at h
  · rename_i hs
    obtain ⟨rfl, rfl, hs⟩ := hs
    have h2 := number_any a0 hs w
    rw [Option.some.inj h] at h2
    exact h2
  · cases h
/-- A digit's octet. -/
def sgI (d : Nat) : Int := if d < 10 then 48 + d else 87 + d
def signsS : ByteArray := ⟨#[48, 49, 50, 51, 52, 53, 54, 55, 56, 57, 97, 98, 99, 100, 101, 102]⟩
theorem sg_at (d : Nat) (hd : d < 16) : ∀ h : d < signsS.size, ((signsS[d]'h).toNat : Int) = sgI d := by
  have : ∀ d : Fin 16, ((signsS[d.val]'(d.isLt)).toNat : Int) = sgI d.val := by decide
  exact fun h => this ⟨d, hd⟩
/-- The digits ahead of those that are there. -/
def hx : Nat → Nat → List Int → List Int
  | 0, _, acc => acc
  | f + 1, m, acc => if m = 0 then acc else hx f (m / 16) (sgI (m % 16) :: acc)
/-- A number's digits to the base 16. -/
def figsL (n : Nat) : List Int := hx 16 (n / 16) [sgI (n % 16)]
theorem hx_zero (f : Nat) (acc : List Int) : hx f 0 acc = acc := by cases f <;> rfl
/-- Where figures stands. -/
structure FigAt (n m at_ : Nat) (xs : List Int) : Prop where
  len : at_ + xs.length = 64
  low : 48 ≤ at_
  fits : m < 16 ^ (at_ - 48)
  val : at_ ≠ 64 → hx (at_ - 47) m xs = figsL n
  first : at_ = 64 → m = n
theorem FigAt.zero (n : Nat) (hn : n ≤ 9223372036854775807) : FigAt n n 64 [] := ⟨rfl, by omega, by show n < 16 ^ 16; omega, fun h => absurd rfl h, fun _ => rfl⟩
theorem FigAt.step {n m at_ : Nat} {xs : List Int} (h : FigAt n m at_ xs) (hg : at_ = 64 ∨ m ≠ 0) : FigAt n (m / 16) (at_ - 1) (sgI (m % 16) :: xs) ∧ 49 ≤ at_ := by
  have h1 := h.len
  have h2 := h.low
  have h3 := h.fits
  have h49 : 49 ≤ at_ := by
    rcases hg with hg | hg
    · omega
    · by_cases e : at_ = 48
      · rw [e] at h3
        simp at h3
        exact absurd h3 hg
      · omega
  have e48 : at_ - 48 = (at_ - 1 - 48) + 1 := by omega
  rw [e48, Nat.pow_succ] at h3
  refine ⟨⟨by rw [List.length_cons]; omega, by omega, Nat.div_lt_of_lt_mul (by omega), fun hne => ?_, fun e => by omega⟩, h49⟩
  by_cases e : at_ = 64
  · have := h.first e
    subst this
    have hx0 : xs = [] := List.eq_nil_of_length_eq_zero (by omega)
    rw [hx0, e]; rfl
  · have hm : m ≠ 0 := hg.resolve_left e
    have hv := h.val e
    have e47 : at_ - 47 = (at_ - 1 - 47) + 1 := by omega
    rw [e47, hx, if_neg hm] at hv
    exact hv
theorem FigAt.done {n m at_ : Nat} {xs : List Int} (h : FigAt n m at_ xs) (hg : ¬ (at_ = 64 ∨ m ≠ 0)) : xs = figsL n := by
  have hm : m = 0 := Decidable.byContradiction fun h => hg (.inr h)
  have := h.val (fun e => hg (.inl e))
  rw [hm, hx_zero] at this
  exact this
/-- The array's block holds the digits at its end. -/
def ArrAt (W : World) (g at_ : Nat) (xs : List Int) : Prop := ∃ cs : Array Value, W.heap[g]? = some (.cells cs 98 (0, 0)) ∧ cs.size = 64 ∧ (∀ j, j < 64 → ∃ x, cs[j]? = some (.int .u8 x)) ∧ ∀ j, j < xs.length → cs[at_ + j]? = some (.int .u8 (xs.getD j 0))
theorem ArrAt.cell {W : World} {g at_ : Nat} {xs : List Int} (h : ArrAt W g at_ xs) (i : Nat) (hi : i < 64) : (∃ x, W.cell? ⟨g, i, none⟩ = some (.int .u8 x)) ∧ W.frozen? ⟨g, i, none⟩ = false := by
  obtain ⟨cs, hg, hs, h1, h2⟩ := h
  obtain ⟨x, hx⟩ := h1 i hi
  exact ⟨⟨x, (blk_cell hg i).trans hx⟩, blk_frozen hg i⟩
theorem ArrAt.set {W : World} {g at_ : Nat} {xs : List Int} (h : ArrAt W g at_ xs) (hl : at_ + xs.length = 64) (hp : 0 < at_) (x : Int) : ArrAt (W.setCell ⟨g, at_ - 1, none⟩ (.int .u8 x)) g (at_ - 1) (x :: xs) := by
  obtain ⟨cs, hg, hs, h1, h2⟩ := h
  refine ⟨_, blk_set hg (at_ - 1) (.int .u8 x), by rw [Array.size_setIfInBounds]; exact hs, fun j hj => ?_, fun j hj => ?_⟩
  · by_cases e : at_ - 1 = j
    · subst e
      rw [Array.getElem?_setIfInBounds_self, if_pos (by omega)]
      exact ⟨_, rfl⟩
    · rw [Array.getElem?_setIfInBounds_ne e]; exact h1 j hj
  · rw [List.length_cons] at hj
    cases j with
    | zero => rw [Nat.add_zero, Array.getElem?_setIfInBounds_self, if_pos (by omega)]; rfl
    | succ j =>
      rw [Array.getElem?_setIfInBounds_ne (by omega), show at_ - 1 + (j + 1) = at_ + j by omega, h2 j (by omega)]
      rfl
theorem ArrAt.reads {W : World} {g at_ : Nat} {xs : List Int} (h : ArrAt W g at_ xs) (hl : at_ + xs.length = 64) : ReadsInt W .u8 (some ⟨g, at_, none⟩) xs.length xs := by
  obtain ⟨cs, hg, hs, h1, h2⟩ := h
  refine ⟨rfl, by omega, fun _ => ⟨_, rfl, fun j hj => ?_⟩⟩
  show W.cell? ((⟨g, at_, none⟩ : Addr).add j) = _
  have e : ((⟨g, at_, none⟩ : Addr).add j) = ⟨g, at_ + j, none⟩ := by simp [Addr.add]
  rw [e]
  exact (blk_cell hg (at_ + j)).trans (h2 j hj)
def zeros64 : Array Value := #[.int .u8 0, .int .u8 0, .int .u8 0, .int .u8 0, .int .u8 0, .int .u8 0, .int .u8 0, .int .u8 0, .int .u8 0, .int .u8 0, .int .u8 0, .int .u8 0, .int .u8 0, .int .u8 0, .int .u8 0, .int .u8 0, .int .u8 0, .int .u8 0, .int .u8 0, .int .u8 0, .int .u8 0, .int .u8 0, .int .u8 0, .int .u8 0, .int .u8 0, .int .u8 0, .int .u8 0, .int .u8 0, .int .u8 0, .int .u8 0, .int .u8 0, .int .u8 0, .int .u8 0, .int .u8 0, .int .u8 0, .int .u8 0, .int .u8 0, .int .u8 0, .int .u8 0, .int .u8 0, .int .u8 0, .int .u8 0, .int .u8 0, .int .u8 0, .int .u8 0, .int .u8 0, .int .u8 0, .int .u8 0, .int .u8 0, .int .u8 0, .int .u8 0, .int .u8 0, .int .u8 0, .int .u8 0, .int .u8 0, .int .u8 0, .int .u8 0, .int .u8 0, .int .u8 0, .int .u8 0, .int .u8 0, .int .u8 0, .int .u8 0, .int .u8 0]
theorem zeros64_at : ∀ j, j < 64 → ∃ x, zeros64[j]? = some (.int .u8 x) := by
  have h : ∀ j : Fin 64, zeros64[j.val]? = some (.int .u8 0) := fun ⟨j, hj⟩ => by
    have : zeros64 = Array.replicate 64 (.int .u8 0) := rfl
    rw [this]
    simp [hj]
  exact fun j hj => ⟨0, h ⟨j, hj⟩⟩
theorem ArrAt.zero (W : World) : ArrAt (W.alloc (.cells zeros64 98)) W.heap.size 64 [] := ⟨_, blk_new W _, rfl, zeros64_at, fun j hj => by cases hj⟩
set_option maxHeartbeats 4000000 in
set_option maxRecDepth 100000 in
theorem figures_any (n : Nat) (hn : n ≤ 9223372036854775807) (w : World) : Calls Try.prog 100 #[.int .i64 (n : Int), .int .i64 16] w fun e w' => e = .returned (.string (strOfNums (figsL n))) ∧ Below w.heap.size w w' := by
  go_enter Try.func100, Try.ntmps100
  go_wp2
  obtain ⟨z1, hz1⟩ : ∃ z1, w.alloc (.cells zeros64 98) = z1 := ⟨_, rfl⟩
  have HA1 : Aside0 (ArrAt z1 w.heap.size 64 []) := ⟨by rw [← hz1]; exact ArrAt.zero w⟩
  have HB1 : Aside0 (Below w.heap.size w z1) := ⟨by rw [← hz1]; exact below_alloc (Below.refl _ _) _⟩
  unfold zeros64 at hz1
  rw [hz1]
  clear hz1
  obtain ⟨g, hg⟩ : ∃ g, w.heap.size = g := ⟨_, rfl⟩
  have hgB : w.heap.size ≤ g := by omega
  rw [hg] at HA1 ⊢
  clear hg
  go_loopg [0, 6] (n + 1) (fun k v0 v6 wr => ∃ (m at_ : Nat) (xs : List Int), v0 = .int .i64 (m : Int) ∧ v6 = .int .i64 (at_ : Int) ∧ Aside0 (m + (if at_ = 64 then 1 else 0) ≤ k) ∧ Aside0 (FigAt n m at_ xs) ∧ Aside0 (m ≤ n) ∧ Aside0 (ArrAt wr g at_ xs) ∧ Aside0 (Below w.heap.size w wr))
  case atStart => exact ⟨n, 64, [], rfl, rfl, ⟨by simp⟩, ⟨FigAt.zero n hn⟩, ⟨Nat.le_refl _⟩, HA1, HB1⟩
  case round =>
    obtain ⟨m, at_, xs, rfl, rfl, HK, HF, HM, HA, HB⟩ := hrel
    have hmn := HM.out
    by_cases h64 : at_ = 64
    · subst h64
      obtain ⟨hst, h49⟩ := HF.out.step (.inl rfl)
      have HST := Aside0.mk hst
      have HAS := Aside0.mk (fun x => HA.out.set HF.out.len (by omega) x)
      obtain ⟨⟨x, hcell⟩, hfroz⟩ := HA.out.cell 63 (by omega)
      have HSG := Aside0.mk (sg_at (m % 16) (Nat.mod_lt _ (by omega)))
      have hk := HK.out
      rw [if_pos rfl] at hk
      have hmI : (0 : Int) ≤ m := by omega
      have hm63 : (m : Int) ≤ 9223372036854775807 := by omega
      clear hst
      go_wp2
      go_roundg (gk - 1)
      case measure => omega
      case rel =>
        refine ⟨m / 16, 63, sgI (m % 16) :: xs, congrArg (Value.int .i64) (by omega), rfl, ⟨by rw [if_neg (by omega)]; omega⟩, HST, ⟨by omega⟩, ⟨?_⟩, ⟨HB.out.setCell hgB _⟩⟩
        rw [← HSG.out (Nat.mod_lt _ (by decide))]
        exact HAS.out _
    · have hb1 : ((at_ : Int) == 64) = false := beq_eq_false_iff_ne.mpr (by omega)
      have hk := HK.out
      rw [if_neg h64] at hk
      have hlen := HF.out.len
      have hat : (at_ : Int) ≤ 64 := by omega
      have hmI : (0 : Int) ≤ m := by omega
      have hm63 : (m : Int) ≤ 9223372036854775807 := by omega
      by_cases hm : m = 0
      · have hb2 : ((m : Int) != 0) = false := bne_eq_false_iff_eq.mpr (by omega)
        have HD := Lib.hid (HF.out.done (by omega))
        have hR := HA.out.reads hlen
        rw [show xs.length = 64 - at_ by omega] at hR
        have hcv : ∀ c, (convert 73 9 (.slice (some ⟨g, at_, none⟩) (64 - at_) c)).run Try.prog wr = _ := fun c => string_of_reads (n := 64 - at_) (c := c) Try.underlying73 Try.underlying5 Try.underlying9 hR
        clear hm hR
        go_wp2
        go_ret
        exact ⟨by rw [HD.out]; rfl, HB.out⟩
      · have hb2 : ((m : Int) != 0) = true := bne_iff_ne.mpr (by omega)
        obtain ⟨hst, h49⟩ := HF.out.step (.inr hm)
        have HST := Aside0.mk hst
        have HAS := Aside0.mk (fun x => HA.out.set hlen (by omega) x)
        obtain ⟨⟨x, hcell⟩, hfroz⟩ := HA.out.cell (at_ - 1) (by omega)
        have HSG := Aside0.mk (sg_at (m % 16) (Nat.mod_lt _ (by omega)))
        have ha1 : (0 : Int) ≤ (at_ : Int) - 1 := by omega
        clear hst
        go_wp2
        go_roundg (gk - 1)
        case measure => omega
        case rel =>
          refine ⟨m / 16, at_ - 1, sgI (m % 16) :: xs, congrArg (Value.int .i64) (by omega), congrArg (Value.int .i64) (by omega), ⟨by rw [if_neg (by omega)]; omega⟩, HST, ⟨by omega⟩, ⟨?_⟩, ⟨HB.out.setCell hgB _⟩⟩
          rw [← HSG.out (Nat.mod_lt _ (by decide))]
          exact HAS.out _
def digits_figures.f (a0 a1 : Int) : Option ByteArray := if 0 ≤ a0 ∧ a0 ≤ 9223372036854775807 ∧ a1 = 16 then some (strOfNums (figsL a0.toNat)) else none
theorem digits_figures.calls (a0 a1 : Int) (r : ByteArray) (w : World) (h : digits_figures.f a0 a1 = some r) : Calls Try.prog 100 #[.int .i64 a0, .int .i64 a1] w fun e w' => e = .returned (.string r) ∧ Below w.heap.size w w' := by
  unfold digits_figures.f at h
  split at h
  · rename_i hs
    obtain ⟨h0, h1, rfl⟩ := hs
    obtain rfl := Option.some.inj h
    have h2 := figures_any a0.toNat (by omega) w
    rw [Int.toNat_of_nonneg h0] at h2
    exact h2
  · cases h
end Go.Proofs.Ytbelgmfhaddhmaa.Q
