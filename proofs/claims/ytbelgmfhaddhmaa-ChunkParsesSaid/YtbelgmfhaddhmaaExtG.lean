/- The contracts of cursor.Quote and what it calls. -/
import Derived.Test.YtbelgmfhaddhmaaExtF
namespace Go.Proofs.Ytbelgmfhaddhmaa.Q
open Go.RowKit Go.Proofs.YtbelgmfhaddhmaaW.PrintWords
set_option linter.unusedVariables false

set_option maxHeartbeats 1000000 in
theorem quoted_nil (w : World) : Calls Try.prog 53 #[.pointer none] w fun e w' => e = .returned (.tuple #[.string ⟨#[]⟩, .bool false]) ∧ Below w.heap.size w w' := by
  go_enter Try.func53, Try.ntmps53
  go_wp2_with fail
  refine (left_nil _).mono ?_
  rintro e w1 ⟨rfl, hb⟩
  have HB := Aside0.mk hb
  clear hb
  go_wp2
  go_ret2
  exact ⟨rfl, HB.out⟩
theorem get_over (s : ByteArray) (i : Nat) (h : s.size ≤ i) : s.get! i = default := by
  simp only [ByteArray.get!]
  exact getElem!_neg s.data i (by show ¬ i < s.size; omega)
theorem get_in (s : ByteArray) (i : Nat) (h : i < s.size) : s.get! i = s[i] := by simp [ByteArray.get!, getElem!_pos, h]; rfl
theorem get_cut (s : ByteArray) (p k : Nat) (hp : p ≤ s.size) : (s.extract p s.size).get! k = s.get! (p + k) := by
  have hz : (s.extract p s.size).size = s.size - p := by rw [ByteArray.size_extract]; omega
  by_cases h : p + k < s.size
  · have h1 : k < (s.extract p s.size).size := by omega
    rw [get_in _ _ h1, get_in _ _ h, ByteArray.getElem_extract]
  · rw [get_over _ _ (by omega), get_over _ _ (by omega)]
theorem decode_cut (s : ByteArray) (p : Nat) (hp : p ≤ s.size) : Utf8.decode (s.extract p s.size) 0 = Utf8.decode s p := by
  have hz : (s.extract p s.size).size = s.size - p := by rw [ByteArray.size_extract]; omega
  rw [Lib.decode_at, Lib.decode_at, get_cut s p _ hp, get_cut s p _ hp, get_cut s p _ hp, get_cut s p _ hp, hz]
  rfl
theorem rune_le (s : ByteArray) (p : Nat) (h : p < s.size) : p + (Utf8.decode s p).2 ≤ s.size ∧ 1 ≤ (Utf8.decode s p).2 := by
  by_cases ha : (s[p]'h).toNat < 128
  · rw [decode_ascii s p h ha]; exact ⟨by show p + 1 ≤ _; omega, Nat.le_refl _⟩
  · have hd := decode_high s p h (by omega)
    obtain ⟨hj, _⟩ := cover s p h (by omega) (p + (Utf8.decode s p).2 - 1) (by omega) (by omega)
    exact ⟨by omega, hd.2⟩
set_option maxHeartbeats 2000000 in
set_option maxRecDepth 100000 in
theorem size_any (s : ByteArray) (h0 : 0 < s.size) (hz : s.size ≤ 140737488351232) (w : World) : Calls Try.prog 90 #[.string s] w fun e w' => e = .returned (.int .i64 (((Utf8.decode s 0).2 : Nat) : Int)) ∧ Below w.heap.size w w' := by
  obtain ⟨k0, hk0⟩ : ∃ k0, k0 = w.heap.size := ⟨_, rfl⟩
  have HK0 := Lib.hid hk0
  obtain ⟨d, hd⟩ : ∃ d, d = (Utf8.decode s 0).2 := ⟨_, rfl⟩
  have hle := rune_le s 0 h0
  rw [← hd] at hle ⊢
  have HD := Lib.hid hd
  clear hd
  go_enter Try.func90, Try.ntmps90
  go_wp2
  rw [← HK0.out]
  clear hk0
  go_loopg [] 2 (fun k wr => ∃ pos : Nat, Aside0 (wr.heap[k0]? = some (.stringIter s pos)) ∧ Aside0 ((pos = 0 ∧ k = 2) ∨ (pos = d ∧ k = 1)) ∧ Aside0 (Below w.heap.size w wr))
  case atStart => exact ⟨0, ⟨by rw [HK0.out]; exact blk_new w _⟩, ⟨.inl ⟨rfl, rfl⟩⟩, ⟨below_iter _ _⟩⟩
  case round =>
    obtain ⟨pos, HI, HP, HB⟩ := hrel
    by_cases hp : pos < s.size
    · have hnx : ∀ ty, (Instr.next (.pointer (some ⟨k0, 0, none⟩)) true ty).run Try.prog wr = _ := fun ty => Lib.run_next_any_at wr k0 s pos ty HI.out hp
      obtain ⟨r, hr⟩ : ∃ r, r = Utf8.decode s pos := ⟨_, rfl⟩
      rw [← hr] at hnx
      have HR := Lib.hid hr
      clear hr
      have HI2 := Aside0.mk (Lib.iterAt_heap wr k0 s pos (pos + r.2) HI.out)
      have HB2 := Aside0.mk (Below.iterAt_far (k := k0) HB.out (by rw [HK0.out]; exact Nat.le_refl _) s (pos + r.2))
      rcases HP.out with ⟨e1, e2⟩ | ⟨e1, e2⟩
      · subst e1
        go_wp2
        go_roundg 1
        case measure => omega
        case rel =>
          refine ⟨r.2, ⟨by have := HI2.out; rwa [Nat.zero_add] at this⟩, ⟨.inr ⟨by rw [HR.out, HD.out], rfl⟩⟩, ⟨?_⟩⟩
          have := HB2.out
          rwa [Nat.zero_add] at this
      · subst e1
        have hq : (0 : Int) < (pos : Int) := by omega
        go_wp2
        go_ret
        exact ⟨rfl, HB2.out⟩
    · have hnx : ∀ ty, (Instr.next (.pointer (some ⟨k0, 0, none⟩)) true ty).run Try.prog wr = _ := fun ty => Lib.run_next_end_at wr k0 s pos ty HI.out hp
      have hds : Hid (d = s.size) := by
        rcases HP.out with ⟨e1, e2⟩ | ⟨e1, e2⟩
        · omega
        · show d = s.size; omega
      go_wp2
      go_ret
      exact ⟨by rw [hds.out]; rfl, HB.out⟩
/-- The octets with a slash ahead of each mark and slash. -/
def esc (l : List Int) : List Int := l.flatMap fun b => if b = 34 ∨ b = 92 then [92, b] else [b]
theorem esc_append (a b : List Int) : esc (a ++ b) = esc a ++ esc b := by rw [esc, List.flatMap_append]; rfl
theorem esc_plain (l : List Int) (h : ∀ x ∈ l, x ≠ 34 ∧ x ≠ 92) : esc l = l := by
  induction l with
  | nil => rfl
  | cons a l ih =>
    have ha := h a (by simp)
    rw [esc, List.flatMap_cons, if_neg (by omega)]
    exact congrArg (a :: ·) (ih (fun x hx => h x (by simp [hx])))
theorem esc_length (l : List Int) : (esc l).length ≤ 2 * l.length := by
  induction l with
  | nil => exact Nat.le_refl _
  | cons a l ih =>
    rw [esc, List.flatMap_cons, List.length_append, List.length_cons]
    have : (if a = 34 ∨ a = 92 then [92, a] else [a]).length ≤ 2 := by split <;> simp
    have : (l.flatMap fun b => if b = 34 ∨ b = 92 then [92, b] else [b]).length ≤ 2 * l.length := ih
    omega
/-- What Quote tells. -/
def qtS (s : ByteArray) : ByteArray := if tokenI s = true then s else if valueI s = true then strOfNums (34 :: esc (bytesOf s) ++ [34]) else ⟨#[]⟩
def qtOk (s : ByteArray) : Bool := tokenI s || valueI s
def cursor_Quote.f (a0 : ByteArray) : Option (ByteArray × Bool) := if a0.size ≤ 35184372088832 then some (qtS a0, qtOk a0) else none
theorem bytes_cut (s : ByteArray) (a b : Nat) : bytesOf (s.extract a b) = ((bytesOf s).drop a).take (b - a) := by
  unfold bytesOf
  rw [Lib.extract_data, List.map_take, List.map_drop]
/-- One rune more, escaped. -/
theorem esc_step (s : ByteArray) (pos : Nat) (h : pos < s.size) : esc ((bytesOf s).take (pos + (Utf8.decode s pos).2)) =
    esc ((bytesOf s).take pos) ++ ((if ((Utf8.decode s pos).1 : Int) = 34 ∨ ((Utf8.decode s pos).1 : Int) = 92 then [92] else []) ++ bytesOf (s.extract pos (pos + (Utf8.decode s pos).2))) := by
  have hr := rune_le s pos h
  have e1 : (bytesOf s).take (pos + (Utf8.decode s pos).2) = (bytesOf s).take pos ++ bytesOf (s.extract pos (pos + (Utf8.decode s pos).2)) := by
    rw [bytes_cut, List.take_add, Nat.add_sub_cancel_left]
  rw [e1, esc_append]
  congr 1
  by_cases ha : (s[pos]'h).toNat < 128
  · have hd := decode_ascii s pos h ha
    have e2 : bytesOf (s.extract pos (pos + (Utf8.decode s pos).2)) = [((s[pos]'h).toNat : Int)] := by
      rw [hd, bytes_cut, drop_bt s pos h, show pos + 1 - pos = 1 by omega]
      show [bt s (pos : Int)] = _
      rw [← bt_at s (pos : Int) (by simpa using h)]
      rfl
    rw [e2, hd]
    show esc [((s[pos]'h).toNat : Int)] = (if ((s[pos]'h).toNat : Int) = 34 ∨ ((s[pos]'h).toNat : Int) = 92 then [92] else []) ++ _
    rw [esc, List.flatMap_cons, List.flatMap_nil, List.append_nil]
    split <;> rfl
  · have hd := decode_high s pos h (by omega)
    have hc := cover s pos h (by omega)
    rw [if_neg (by omega), List.nil_append]
    refine esc_plain _ (fun x hx => ?_)
    obtain ⟨j, hj, rfl⟩ := List.getElem_of_mem hx
    have hj2 : j < (Utf8.decode s pos).2 := by
      rw [bytes_cut, List.length_take] at hj; omega
    obtain ⟨hjs, hge⟩ := hc (pos + j) (by omega) (by omega)
    have e3 : (bytesOf (s.extract pos (pos + (Utf8.decode s pos).2)))[j] = ((s[pos + j]'hjs).toNat : Int) := by
      have e4 := bytes_at s (pos + j) hjs
      have e5 : (bytesOf (s.extract pos (pos + (Utf8.decode s pos).2)))[j]? = some ((s[pos + j]'hjs).toNat : Int) := by
        rw [bytes_cut, List.getElem?_take, if_pos (by omega), List.getElem?_drop, e4]
      rw [List.getElem?_eq_getElem hj] at e5
      exact Option.some.inj e5
    rw [e3]
    omega
theorem own_iter {w : World} {B n size k : Nat} {v : Value} {xs : List Value} {s : ByteArray} {pos : Nat} (h : w.ownsRow B 5 size v n xs) (hi : w.heap[k]? = some (.stringIter s pos)) (p : Nat) : (w.iterAt k s p).ownsRow B 5 size v n xs :=
  own_move h (fun j hj => by
    obtain ⟨cells, hc⟩ := own_typed h j hj
    refine Lib.iterAt_other _ _ _ _ _ (fun e => ?_)
    subst e
    rw [hc] at hi
    cases hi)
theorem own_not_iter {w : World} {B n size k : Nat} {v : Value} {xs : List Value} {s : ByteArray} {pos : Nat} (h : w.ownsRow B 5 size v n xs) (hi : w.heap[k]? = some (.stringIter s pos)) : some k ≠ v.ownBlock := fun e => by
  obtain ⟨cells, hc⟩ := own_typed h k e.symm
  rw [hc] at hi
  cases hi
/-- What Quote has written so far. -/
structure QuAt (s : ByteArray) (pos : Nat) (out : List Int) : Prop where
  le : pos ≤ s.size
  is : out = 34 :: esc ((bytesOf s).take pos)
theorem QuAt.len {s : ByteArray} {pos : Nat} {out : List Int} (h : QuAt s pos out) : out.length ≤ 2 * pos + 1 := by
  rw [h.is, List.length_cons]
  have := esc_length ((bytesOf s).take pos)
  rw [List.length_take] at this
  omega
theorem QuAt.step {s : ByteArray} {pos : Nat} {out : List Int} (h : QuAt s pos out) (hp : pos < s.size) : QuAt s (pos + (Utf8.decode s pos).2) (out ++ ((if ((Utf8.decode s pos).1 : Int) = 34 ∨ ((Utf8.decode s pos).1 : Int) = 92 then [92] else []) ++ bytesOf (s.extract pos (pos + (Utf8.decode s pos).2)))) :=
  ⟨(rune_le s pos hp).1, by rw [esc_step s pos hp, h.is]; rfl⟩
theorem QuAt.over {s : ByteArray} {pos : Nat} {out : List Int} (h : QuAt s pos out) (hp : ¬ pos < s.size) : out = 34 :: esc (bytesOf s) := by
  rw [h.is, List.take_of_length_le (by rw [bytesOf_length]; omega)]

set_option maxHeartbeats 4000000 in
set_option maxRecDepth 100000 in
theorem cursor_Quote.calls (a0 : ByteArray) (r1 : ByteArray) (r2 : Bool) (w : World) (h : cursor_Quote.f a0 = some (r1, r2)) : Calls Try.prog 48 #[.string a0] w fun e w' => e = .returned (.tuple #[.string r1, .bool r2]) ∧ Below w.heap.size w w' := by
  unfold cursor_Quote.f at h
  split at h
  · rename_i hz
    obtain ⟨rfl, rfl⟩ := Prod.mk.inj (Option.some.inj h)
    clear h
    show Calls _ _ _ _ fun e w' => e = .returned (.tuple #[.string (qtS a0), .bool (qtOk a0)]) ∧ Below w.heap.size w w'
    cases ht : tokenI a0 with
    | true =>
      have e1 : qtS a0 = a0 := by rw [qtS, if_pos ht]
      have e2 : qtOk a0 = true := by rw [qtOk, ht]; rfl
      rw [e1, e2]
      clear e1 e2
      go_enter Try.func48, Try.ntmps48
      go_wp2_with fail
      refine (octet_Token.calls _ true _ (by rw [octet_Token.f, ht])).mono ?_
      rintro e w1 ⟨rfl, hb⟩
      have HB := Aside0.mk hb
      clear hb ht
      go_wp2
      go_ret2
      exact ⟨rfl, HB.out⟩
    | false =>
      cases hv : valueI a0 with
      | false =>
        have e1 : qtS a0 = ⟨#[]⟩ := by rw [qtS, if_neg (by rw [ht]; simp), if_neg (by rw [hv]; simp)]
        have e2 : qtOk a0 = false := by rw [qtOk, ht, hv]; rfl
        rw [e1, e2]
        clear e1 e2
        go_enter Try.func48, Try.ntmps48
        go_wp2_with fail
        refine (octet_Token.calls _ false _ (by rw [octet_Token.f, ht])).mono ?_
        rintro e w1 ⟨rfl, hb⟩
        have HB := Aside0.mk hb
        clear hb ht
        go_wp2_with fail
        refine (octet_Value.calls _ false _ (by rw [octet_Value.f, hv])).mono ?_
        rintro e w2 ⟨rfl, hb⟩
        have HB2 := Aside0.mk (below_step HB.out hb)
        clear hb hv
        go_wp2
        go_ret2
        exact ⟨rfl, HB2.out⟩
      | true =>
        have e1 : qtS a0 = strOfNums (34 :: esc (bytesOf a0) ++ [34]) := by rw [qtS, if_neg (by rw [ht]; simp), if_pos hv]
        have e2 : qtOk a0 = true := by rw [qtOk, ht, hv]; rfl
        rw [e1, e2]
        clear e1 e2
        go_enter Try.func48, Try.ntmps48
        go_wp2_with fail
        refine (octet_Token.calls _ false _ (by rw [octet_Token.f, ht])).mono ?_
        rintro e w1 ⟨rfl, hb⟩
        have HB := Aside0.mk hb
        clear hb ht
        go_wp2_with fail
        refine (octet_Value.calls _ true _ (by rw [octet_Value.f, hv])).mono ?_
        rintro e w2 ⟨rfl, hb⟩
        have HB2 := Aside0.mk (below_step HB.out hb)
        clear hb hv HB
        obtain ⟨k0, hk0⟩ : ∃ k0, k0 = w2.heap.size + 1 := ⟨_, rfl⟩
        have HK0 := Lib.hid hk0
        go_wp2
        rw [← HK0.out]
        clear hk0
        go_loopg [4] a0.size (fun k v4 wr => ∃ (pos : Nat) (out : List Int), Aside0 (wr.heap[k0]? = some (.stringIter a0 pos)) ∧ Aside0 (a0.size - pos ≤ k) ∧ Aside0 (QuAt a0 pos out) ∧ Aside0 (wr.ownsRow w.heap.size 5 1 v4 out.length (nums .u8 out)) ∧ Aside0 (Below w.heap.size w wr))
        case atStart =>
          have hB := HB2.out.size
          refine ⟨0, [34], ⟨?_⟩, ⟨Nat.le_refl _⟩, ⟨⟨Nat.zero_le _, rfl⟩⟩, ⟨?_⟩, ⟨?_⟩⟩
          · rw [HK0.out]
            have hsz : (w2.alloc (.cells #[.int .u8 34] 5 (0, 0))).heap.size = w2.heap.size + 1 := by simp
            have := blk_new (w2.alloc (.cells #[.int .u8 34] 5 (0, 0))) (.stringIter a0 0)
            rw [hsz] at this
            exact this
          · exact own_alloc (own_lit w2 _ 5 .u8 [34] hB (by decide)) _
          · exact below_alloc (below_alloc HB2.out _) _
        case round =>
          obtain ⟨pos, out, HI, HK, HQ, HO, HB⟩ := hrel
          have hlen := HQ.out.len
          have hle := HQ.out.le
          have hki := HK.out
          obtain ⟨A, c, hv4⟩ := own_slice HO.out
          subst hv4
          by_cases hp : pos < a0.size
          · have hnx : ∀ ty, (Instr.next (.pointer (some ⟨k0, 0, none⟩)) true ty).run Try.prog wr = _ := fun ty => Lib.run_next_any_at wr k0 a0 pos ty HI.out hp
            obtain ⟨hrl, hr1⟩ := rune_le a0 pos hp
            have hstep := HQ.out.step hp
            have hdc := decode_cut a0 pos hle
            obtain ⟨r, hr⟩ : ∃ r, r = Utf8.decode a0 pos := ⟨_, rfl⟩
            rw [← hr] at hnx hrl hr1 hstep hdc
            have HS := Aside0.mk hstep
            have hbig : w.heap.size ≤ k0 := by rw [HK0.out]; have := HB2.out.size; omega
            have HI2 := Aside0.mk (Lib.iterAt_heap wr k0 a0 pos (pos + r.2) HI.out)
            have HB3 := Aside0.mk (Below.iterAt_far (k := k0) HB.out hbig a0 (pos + r.2))
            have HO3 := Aside0.mk (own_iter HO.out HI.out (pos + r.2))
            have hsz : (a0.extract pos a0.size).size = a0.size - pos := by rw [ByteArray.size_extract]; omega
            have hp0 : (0 : Int) ≤ (pos : Int) := by omega
            have hp1 : (pos : Int) ≤ (a0.size : Int) := by omega
            obtain ⟨q, hq⟩ : ∃ q, q = pos + r.2 := ⟨_, rfl⟩
            rw [← hq] at hrl HS HI2 HB3 HO3 hnx
            have hp2 : (pos : Int) ≤ (q : Int) := by omega
            have hp3 : (q : Int) ≤ (a0.size : Int) := by omega
            have hy : (a0.extract pos q).size = r.2 := by rw [ByteArray.size_extract]; omega
            have hol : out.length + 1 + r.2 ≤ 140737488355328 := by omega
            have hcl : out.length + (a0.extract pos q).size ≤ 140737488355328 := by omega
            have hcl3 : (out.length + 1) * 1 ≤ 140737488355328 := by omega
            have hcl2 : (out ++ [92]).length + (a0.extract pos q).size ≤ 140737488355328 := by rw [List.length_append, List.length_singleton]; omega
            have hsa := fun W => size_any (a0.extract pos a0.size) (by omega) (by omega) W
            simp only [hdc] at hsa
            have hmeas : a0.size - q ≤ gk - 1 ∧ gk - 1 < gk := by omega
            have hw : wrap64 ((pos : Int) + (r.2 : Int)) = (q : Int) := by rw [IntWalk.wrap64_in _ ⟨by omega, by omega⟩]; omega
            clear hr hstep hlen hdc hle hki hsz hq hy hol hrl hr1
            by_cases hm : (r.1 : Int) = 34 ∨ (r.1 : Int) = 92
            · rcases hm with hm1 | hm1
              · have hm : (r.1 : Int) = 34 ∨ (r.1 : Int) = 92 := .inl hm1
                have q34 : ((r.1 : Int) == 34) = true := beq_iff_eq.mpr hm1
                clear hm1
                go_wp2_with (at_builtin; refine print_append_num (w0 := w) w.heap.size rfl (.tmp 28) (.tmp 29) 73 5 .u8 1 rfl Try.underlying73 inf5 (by decide) _ out 92 rfl rfl HO3.out HB3.out HB3.out.size hcl3 ?_)
                intro v1 w3 hown hB4 hg hat
                obtain ⟨A1, c1, hv1⟩ := own_slice hown
                subst hv1
                have HO4 := Aside0.mk hown
                have HB4 := Aside0.mk hB4
                have HI4 := Aside0.mk (blk_grown HI2.out hg (own_not_iter HO3.out HI2.out))
                clear hown hB4 hg hat
                go_wp2_with fail
                refine (hsa _).mono ?_
                rintro e w4 ⟨rfl, hb⟩
                have HO5 := Aside0.mk (pw_own_below HO4.out hb)
                have HB5 := Aside0.mk (below_step HB4.out hb)
                have HI5 := Aside0.mk (blk_below HI4.out hb)
                clear hb
                go_wp2_with (at_builtin; refine print_append_str (w0 := w) w.heap.size rfl (.tmp 31) (.tmp 40) 73 9 5 rfl Try.underlying73 Try.underlying9 inf5 _ (out ++ [92]) (a0.extract pos q) rfl rfl ?cO HB5.out HB5.out.size ?cL ?_)
                case cO => first | exact HO5.out | (rw [List.length_append, List.length_singleton]; exact HO5.out)
                case cL => first | exact hcl | exact hcl2
                intro v2 w5 hown hB6 hg
                obtain ⟨A2, c2, hv2⟩ := own_slice hown
                subst hv2
                have HO6 := Aside0.mk hown
                have HB6 := Aside0.mk hB6
                have HI6 := Aside0.mk (blk_grown HI5.out hg (own_not_iter HO5.out HI5.out))
                clear hown hB6 hg hsa
                go_wp2
                go_roundg (gk - 1)
                case measure => exact hmeas.2
                case rel =>
                  refine ⟨q, (out ++ [92]) ++ bytesOf (a0.extract pos q), HI6, ⟨hmeas.1⟩, ⟨?_⟩, ⟨?_⟩, HB6⟩
                  · have := HS.out
                    rwa [if_pos hm, ← List.append_assoc] at this
                  · first | exact HO6.out | (simpa using HO6.out)
              · have hm : (r.1 : Int) = 34 ∨ (r.1 : Int) = 92 := .inr hm1
                have q34 : ((r.1 : Int) == 34) = false := beq_eq_false_iff_ne.mpr (by rw [hm1]; decide)
                have q92 : ((r.1 : Int) == 92) = true := beq_iff_eq.mpr hm1
                clear hm1
                go_wp2_with (at_builtin; refine print_append_num (w0 := w) w.heap.size rfl (.tmp 28) (.tmp 29) 73 5 .u8 1 rfl Try.underlying73 inf5 (by decide) _ out 92 rfl rfl HO3.out HB3.out HB3.out.size hcl3 ?_)
                intro v1 w3 hown hB4 hg hat
                obtain ⟨A1, c1, hv1⟩ := own_slice hown
                subst hv1
                have HO4 := Aside0.mk hown
                have HB4 := Aside0.mk hB4
                have HI4 := Aside0.mk (blk_grown HI2.out hg (own_not_iter HO3.out HI2.out))
                clear hown hB4 hg hat
                go_wp2_with fail
                refine (hsa _).mono ?_
                rintro e w4 ⟨rfl, hb⟩
                have HO5 := Aside0.mk (pw_own_below HO4.out hb)
                have HB5 := Aside0.mk (below_step HB4.out hb)
                have HI5 := Aside0.mk (blk_below HI4.out hb)
                clear hb
                go_wp2_with (at_builtin; refine print_append_str (w0 := w) w.heap.size rfl (.tmp 31) (.tmp 40) 73 9 5 rfl Try.underlying73 Try.underlying9 inf5 _ (out ++ [92]) (a0.extract pos q) rfl rfl ?cO HB5.out HB5.out.size ?cL ?_)
                case cO => first | exact HO5.out | (rw [List.length_append, List.length_singleton]; exact HO5.out)
                case cL => first | exact hcl | exact hcl2
                intro v2 w5 hown hB6 hg
                obtain ⟨A2, c2, hv2⟩ := own_slice hown
                subst hv2
                have HO6 := Aside0.mk hown
                have HB6 := Aside0.mk hB6
                have HI6 := Aside0.mk (blk_grown HI5.out hg (own_not_iter HO5.out HI5.out))
                clear hown hB6 hg hsa
                go_wp2
                go_roundg (gk - 1)
                case measure => exact hmeas.2
                case rel =>
                  refine ⟨q, (out ++ [92]) ++ bytesOf (a0.extract pos q), HI6, ⟨hmeas.1⟩, ⟨?_⟩, ⟨?_⟩, HB6⟩
                  · have := HS.out
                    rwa [if_pos hm, ← List.append_assoc] at this
                  · first | exact HO6.out | (simpa using HO6.out)
            · have q34 : ((r.1 : Int) == 34) = false := beq_eq_false_iff_ne.mpr (fun h => hm (.inl h))
              have q92 : ((r.1 : Int) == 92) = false := beq_eq_false_iff_ne.mpr (fun h => hm (.inr h))
              have HO4 := HO3
              have HB4 := HB3
              have HI4 := HI2
              go_wp2_with fail
              refine (hsa _).mono ?_
              rintro e w4 ⟨rfl, hb⟩
              have HO5 := Aside0.mk (pw_own_below HO4.out hb)
              have HB5 := Aside0.mk (below_step HB4.out hb)
              have HI5 := Aside0.mk (blk_below HI4.out hb)
              clear hb
              go_wp2_with (at_builtin; refine print_append_str (w0 := w) w.heap.size rfl (.tmp 31) (.tmp 40) 73 9 5 rfl Try.underlying73 Try.underlying9 inf5 _ out (a0.extract pos q) rfl rfl ?cO HB5.out HB5.out.size ?cL ?_)
              case cO => first | exact HO5.out | (rw [List.length_append, List.length_singleton]; exact HO5.out)
              case cL => first | exact hcl | exact hcl2
              intro v2 w5 hown hB6 hg
              obtain ⟨A2, c2, hv2⟩ := own_slice hown
              subst hv2
              have HO6 := Aside0.mk hown
              have HB6 := Aside0.mk hB6
              have HI6 := Aside0.mk (blk_grown HI5.out hg (own_not_iter HO5.out HI5.out))
              clear hown hB6 hg hsa
              go_wp2
              go_roundg (gk - 1)
              case measure => exact hmeas.2
              case rel =>
                refine ⟨q, out ++ bytesOf (a0.extract pos q), HI6, ⟨hmeas.1⟩, ⟨?_⟩, ⟨?_⟩, HB6⟩
                · have := HS.out
                  rwa [if_neg hm, List.nil_append] at this
                · first | exact HO6.out | (simpa using HO6.out)
          · have hnx : ∀ ty, (Instr.next (.pointer (some ⟨k0, 0, none⟩)) true ty).run Try.prog wr = _ := fun ty => Lib.run_next_end_at wr k0 a0 pos ty HI.out hp
            have HF := Lib.hid (HQ.out.over hp)
            go_wp2_with (at_builtin; refine print_append_num (w0 := w) w.heap.size rfl (.tmp 42) (.tmp 43) 73 5 .u8 1 rfl Try.underlying73 inf5 (by decide) _ out 34 rfl rfl HO.out HB.out HB.out.size (by omega) ?_)
            intro v1 w3 hown hB3 hg hat
            obtain ⟨A1, c1, hv1⟩ := own_slice hown
            subst hv1
            have hs := own_string (P := Try.prog) (src := 73) (dst := 9) Try.underlying73 Try.underlying5 Try.underlying9 hown
            have HB4 := Aside0.mk hB3
            clear hown hB3 hg hat
            go_wp2
            go_ret2
            exact ⟨by rw [HF.out]; rfl, HB4.out⟩
  · cases h
end Go.Proofs.Ytbelgmfhaddhmaa.Q
