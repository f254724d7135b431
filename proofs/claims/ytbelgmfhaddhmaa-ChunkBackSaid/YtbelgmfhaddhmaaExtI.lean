/- The walk of CursorBack. -/
import Derived.Test.YtbelgmfhaddhmaaExtH
namespace Go.Proofs.Ytbelgmfhaddhmaa.Q
open Go.RowKit Go.Proofs.YtbelgmfhaddhmaaW.PrintWords Go.Proofs.YtbelgmfhaddhmaaW.PrintMore Go.Proofs.Ytbelgmfhaddhmaa.R Go.Proofs.Ytbelgmfhaddhmaa.Pure
attribute [local go_sem] max2_int min2_int max_two min_two max_three min_three max_four min_four
set_option linter.unusedVariables false

theorem tw_append (p : Int → Bool) (a : List Int) (x : Int) (b : List Int) (ha : a.all p = true) (hx : p x = false) : (a ++ x :: b).takeWhile p = a := by
  induction a with
  | nil => rw [List.nil_append, List.takeWhile_cons, if_neg (by rw [hx]; simp)]
  | cons c a ih =>
    rw [List.all_cons, Bool.and_eq_true] at ha
    rw [List.cons_append, List.takeWhile_cons, if_pos ha.1, ih ha.2]
theorem cut_at (L : ByteArray) (a b : ByteArray) (h : bytesOf L = bytesOf a ++ bytesOf b) (n : Nat) (hn : n = a.size) : upto L n = a ∧ ofs L n = b := by
  have hl := bytesOf_length L
  rw [h, List.length_append, bytesOf_length, bytesOf_length] at hl
  subst hn
  constructor
  · apply str_ext
    rw [upto, Pure.bytesOf_cut, h, List.drop_zero, Nat.sub_zero, List.take_left' (bytesOf_length a)]
  · apply str_ext
    rw [ofs, Pure.bytesOf_cut, h, List.drop_left' (bytesOf_length a), List.take_of_length_le (by rw [bytesOf_length]; omega)]
theorem bytes_all (s b : ByteArray) : bytesOf ((s ++ (⟨#[44]⟩ : ByteArray)) ++ b) = bytesOf s ++ bytesOf ((⟨#[44]⟩ : ByteArray) ++ b) := by
  rw [Pure.bytesOf_append, Pure.bytesOf_append, Pure.bytesOf_append, List.append_assoc]
theorem bytes_comma (b : ByteArray) : bytesOf ((⟨#[44]⟩ : ByteArray) ++ b) = 44 :: bytesOf b := by rw [Pure.bytesOf_append]; rfl
theorem back_token (s b : ByteArray) (ht : tokenI s = true) : upto ((s ++ (⟨#[44]⟩ : ByteArray)) ++ b) (spn tcI ((s ++ (⟨#[44]⟩ : ByteArray)) ++ b)) = s ∧ ofs ((s ++ (⟨#[44]⟩ : ByteArray)) ++ b) (spn tcI ((s ++ (⟨#[44]⟩ : ByteArray)) ++ b)) = (⟨#[44]⟩ : ByteArray) ++ b := by
  rw [tokenI, Bool.and_eq_true] at ht
  refine cut_at _ _ _ (bytes_all s b) _ ?_
  rw [spn, bytes_all, bytes_comma, tw_append _ _ _ _ ht.2 (by decide), bytesOf_length]
theorem qt_esc (l : List Int) (hl : l.all vaI = true) (rest : List Int) : ∀ (out : List Int) (n : Nat), qt out (esc l ++ 34 :: rest) n = some (out ++ l, n + (esc l).length + 1) := by
  induction l with
  | nil =>
    intro out n
    show qt out (34 :: rest) n = _
    rw [qt_cons, if_pos rfl, List.append_nil]; rfl
  | cons b l ih =>
    intro out n
    rw [List.all_cons, Bool.and_eq_true] at hl
    have ih := ih hl.2
    by_cases c : b = 34 ∨ b = 92
    · have e : esc (b :: l) = 92 :: b :: esc l := by rw [esc, List.flatMap_cons, if_pos c]; rfl
      rw [e, List.cons_append, List.cons_append, qt_cons, if_neg (by decide), if_pos rfl]
      show (if vaI b = true then qt (out ++ [b]) (esc l ++ 34 :: rest) (n + 2) else none) = _
      rw [if_pos hl.1, ih, List.append_assoc, List.length_cons, List.length_cons]
      congr 2
      omega
    · have e : esc (b :: l) = b :: esc l := by rw [esc, List.flatMap_cons, if_neg c]; rfl
      rw [e, List.cons_append, qt_cons, if_neg (by omega), if_neg (by omega), if_pos hl.1, ih, List.append_assoc, List.length_cons]
      congr 2
      omega
def qtV (s : ByteArray) : ByteArray := strOfNums (34 :: esc (bytesOf s) ++ [34])
theorem esc_in {l : List Int} (h : ∀ x ∈ l, 0 ≤ x ∧ x ≤ 255) : ∀ x ∈ esc l, 0 ≤ x ∧ x ≤ 255 := by
  intro x hx
  rw [esc, List.mem_flatMap] at hx
  obtain ⟨b, hb, hx⟩ := hx
  have := h b hb
  split at hx
  · simp at hx; rcases hx with rfl | rfl <;> omega
  · simp at hx; subst hx; exact this
theorem qtV_bytes (s : ByteArray) : bytesOf (qtV s) = 34 :: esc (bytesOf s) ++ [34] := by
  refine bytesOf_strOf _ (fun x hx => ?_)
  rw [List.mem_append, List.mem_cons, List.mem_singleton] at hx
  rcases hx with (rfl | hx) | rfl
  · omega
  · exact esc_in (bytes_in s) x hx
  · omega
theorem qtV_size (s : ByteArray) : s.size + 2 ≤ (qtV s).size ∧ (qtV s).size ≤ 2 * s.size + 2 := by
  have h := size_bytes (qtV_bytes s)
  rw [List.length_append, List.length_cons, List.length_singleton] at h
  have h1 := esc_length (bytesOf s)
  rw [bytesOf_length] at h1
  have h2 : ∀ l : List Int, l.length ≤ (esc l).length := by
    intro l
    induction l with
    | nil => exact Nat.le_refl _
    | cons a l ih =>
      rw [esc, List.flatMap_cons, List.length_append, List.length_cons]
      have : 1 ≤ (if a = 34 ∨ a = 92 then [92, a] else [a]).length := by split <;> simp
      have : l.length ≤ (l.flatMap fun b => if b = 34 ∨ b = 92 then [92, b] else [b]).length := ih
      omega
  have h3 := h2 (bytesOf s)
  rw [bytesOf_length] at h3
  omega
theorem back_quoted (s b : ByteArray) (hv : valueI s = true) : qs ((qtV s ++ (⟨#[44]⟩ : ByteArray)) ++ b) = s ∧ (Q.quoted ((qtV s ++ (⟨#[44]⟩ : ByteArray)) ++ b)).isSome = true ∧ ofs ((qtV s ++ (⟨#[44]⟩ : ByteArray)) ++ b) (qn ((qtV s ++ (⟨#[44]⟩ : ByteArray)) ++ b)) = (⟨#[44]⟩ : ByteArray) ++ b := by
  have h : Q.quoted ((qtV s ++ (⟨#[44]⟩ : ByteArray)) ++ b) = some (bytesOf s, (qtV s).size) := by
    have hz := size_bytes (qtV_bytes s)
    rw [List.length_append, List.length_cons, List.length_singleton] at hz
    rw [Q.quoted, bytes_all, qtV_bytes]
    show (if (34 : Int) = 34 then qt [] ((esc (bytesOf s) ++ [34]) ++ bytesOf ((⟨#[44]⟩ : ByteArray) ++ b)) 1 else none) = _
    rw [if_pos rfl, List.append_assoc, List.singleton_append, qt_esc _ hv, List.nil_append]
    congr 2
    omega
  refine ⟨?_, by rw [h]; rfl, ?_⟩
  · rw [qs, h]; exact strOf_bytesOf s
  · rw [qn, h]; exact (cut_at _ _ _ (bytes_all (qtV s) b) _ rfl).2
theorem qtV_ne (s : ByteArray) : ((qtV s).toList == s.toList) = false := by
  rw [beq_eq_false_iff_ne]
  intro h
  rw [toList_iff] at h
  have := qtV_size s
  have e := str_ext h
  rw [e] at this
  omega
set_option maxHeartbeats 4000000 in
theorem back_walk (a0 a1 : ByteArray) (W : World) (hs : a0.size ≤ 140737488351232) (hs1 : a1.size ≤ 140737488351232) : Calls Try.prog 10 #[.string a0, .string a1] W fun e w' => e = .returned (.bool true) ∧ Below W.heap.size W w' := by
  obtain ⟨m, hm, hm1, hm2⟩ := min_in a0 1000 (.inl rfl)
  obtain ⟨n, hn, hn1, hn2⟩ := min_in a1 300 (.inr (.inl rfl))
  have hm : (if (1000 : Int) < (a0.size : Int) then 1000 else (a0.size : Int)) = (m : Int) := hm
  have hn : (if (300 : Int) < (a1.size : Int) then 300 else (a1.size : Int)) = (n : Int) := hn
  have hm3 : (m : Int) ≤ (a0.size : Int) := by omega
  have hn3 : (n : Int) ≤ (a1.size : Int) := by omega
  have hz : (a0.extract 0 m).size ≤ 1000 := by rw [ByteArray.size_extract]; omega
  have hzb : (a1.extract 0 n).size ≤ 300 := by rw [ByteArray.size_extract]; omega
  obtain ⟨s, hsd⟩ : ∃ s, s = a0.extract 0 m := ⟨_, rfl⟩
  obtain ⟨b, hbd⟩ : ∃ b, b = a1.extract 0 n := ⟨_, rfl⟩
  rw [← hsd] at hz
  rw [← hbd] at hzb
  have HSD := Lib.hid hsd
  have HBD := Lib.hid hbd
  have HQ := Aside0.mk (quote_any s (by omega))
  clear hsd hbd hm1 hm2 hn1 hn2 hs hs1
  cases ht : tokenI s with
  | true =>
    have e1 : qtS s = s := by rw [qtS, if_pos ht]
    have e2 : qtOk s = true := by rw [qtOk, ht]; rfl
    rw [e1, e2] at HQ
    obtain ⟨b1, b2⟩ := back_token s b ht
    have HSS := same_s s
    have HCC := same_s ((⟨#[44]⟩ : ByteArray) ++ b)
    have z1 : s.size + 1 ≤ 9223372036854775807 := by omega
    have z2 : (s ++ (⟨#[44]⟩ : ByteArray)).size + b.size ≤ 9223372036854775807 := by rw [ByteArray.size_append]; show s.size + 1 + b.size ≤ _; omega
    have z3 : 1 + b.size ≤ 9223372036854775807 := by omega
    have HZ : Aside0 (((s ++ (⟨#[44]⟩ : ByteArray)) ++ b).size ≤ 140737488351232) := ⟨by rw [ByteArray.size_append, ByteArray.size_append]; show s.size + 1 + b.size ≤ _; omega⟩
    have HT : Aside0 (∀ w g, CurL w g ((s ++ (⟨#[44]⟩ : ByteArray)) ++ b) → Calls Try.prog 51 #[.pointer (some ⟨g, 0, none⟩)] w fun e w' => e = .returned (.string s) ∧ CurL w' g ((⟨#[44]⟩ : ByteArray) ++ b) ∧ Eff g w w') := ⟨fun w g h => by
      have := token_any w g _ h
      rwa [b1, b2] at this⟩
    clear e1 e2 ht b1 b2 hz hzb
    go_enter Try.func10, Try.ntmps10
    go_wp2
    go_quiet (fail)
    go_wp2_with fail
    rw [← HSD.out, ← HBD.out]
    refine (HQ.out _).mono ?_
    rintro e w1 ⟨rfl, hb⟩
    have HB1 := Aside0.mk (below_step (pw_below_drewN (Below.refl _ _) _) hb)
    clear hb
    go_wp2_with fail
    refine (new_any _ HZ.out _).mono ?_
    rintro e w2 ⟨rfl, hc, hb⟩
    have HC2 := Aside0.mk hc
    have HB2 := Aside0.mk (below_step HB1.out hb)
    have hs1 := HB1.out.size
    clear hc hb
    go_wp2_with fail
    refine (HT.out _ _ HC2.out).mono ?_
    rintro e w3 ⟨rfl, hc, hE⟩
    have HC3 := Aside0.mk hc
    have HB3 := Aside0.mk (hE.below HB2.out HB2.out.size hs1)
    clear hc hE hs1
    go_wp2_with fail
    refine (left_any _ _ _ HC3.out).mono ?_
    rintro e w4 ⟨rfl, hb⟩
    have HB4 := Aside0.mk (below_step HB3.out hb)
    clear hb
    go_wp2_with fail
    refine (lives4_any _).mono ?_
    rintro e w5 ⟨rfl, hb⟩
    have HB5 := Aside0.mk (below_step HB4.out hb)
    clear hb
    go_wp2
    go_ret
    exact ⟨rfl, HB5.out⟩
  | false =>
    cases hv : valueI s with
    | true =>
      have e1 : qtS s = qtV s := by rw [qtS, if_neg (by rw [ht]; simp), if_pos hv]; rfl
      have e2 : qtOk s = true := by rw [qtOk, ht, hv]; rfl
      rw [e1, e2] at HQ
      obtain ⟨b1, b2, b3⟩ := back_quoted s b hv
      have HSS := same_s s
      have HNE := qtV_ne s
      have HCC := same_s ((⟨#[44]⟩ : ByteArray) ++ b)
      have hqz := qtV_size s
      obtain ⟨q, hq⟩ : ∃ q, q = qtV s := ⟨_, rfl⟩
      rw [← hq] at HQ b1 b2 b3 HNE hqz
      have z1 : q.size + 1 ≤ 9223372036854775807 := by omega
      have z2 : (q ++ (⟨#[44]⟩ : ByteArray)).size + b.size ≤ 9223372036854775807 := by rw [ByteArray.size_append]; show q.size + 1 + b.size ≤ _; omega
      have z3 : 1 + b.size ≤ 9223372036854775807 := by omega
      have HZ : Aside0 (((q ++ (⟨#[44]⟩ : ByteArray)) ++ b).size ≤ 140737488351232) := ⟨by rw [ByteArray.size_append, ByteArray.size_append]; show q.size + 1 + b.size ≤ _; omega⟩
      have HT : Aside0 (∀ w g, CurL w g ((q ++ (⟨#[44]⟩ : ByteArray)) ++ b) → Calls Try.prog 53 #[.pointer (some ⟨g, 0, none⟩)] w fun e w' => e = .returned (.tuple #[.string s, .bool true]) ∧ CurL w' g ((⟨#[44]⟩ : ByteArray) ++ b) ∧ Eff g w w') := ⟨fun w g h => by
        have := quoted_any w g _ h
        unfold QPost at this
        rwa [b1, b2, b3] at this⟩
      clear e1 e2 ht hv b1 b2 b3 hz hzb hqz hq
      go_enter Try.func10, Try.ntmps10
      go_wp2
      go_quiet (fail)
      go_wp2_with fail
      rw [← HSD.out, ← HBD.out]
      refine (HQ.out _).mono ?_
      rintro e w1 ⟨rfl, hb⟩
      have HB1 := Aside0.mk (below_step (pw_below_drewN (Below.refl _ _) _) hb)
      clear hb
      go_wp2_with fail
      refine (new_any _ HZ.out _).mono ?_
      rintro e w2 ⟨rfl, hc, hb⟩
      have HC2 := Aside0.mk hc
      have HB2 := Aside0.mk (below_step HB1.out hb)
      have hs1 := HB1.out.size
      clear hc hb
      go_wp2_with fail
      refine (HT.out _ _ HC2.out).mono ?_
      rintro e w3 ⟨rfl, hc, hE⟩
      have HC3 := Aside0.mk hc
      have HB3 := Aside0.mk (hE.below HB2.out HB2.out.size hs1)
      clear hc hE hs1
      go_wp2_with fail
      refine (left_any _ _ _ HC3.out).mono ?_
      rintro e w4 ⟨rfl, hb⟩
      have HB4 := Aside0.mk (below_step HB3.out hb)
      clear hb
      go_wp2_with fail
      refine (lives4_any _).mono ?_
      rintro e w5 ⟨rfl, hb⟩
      have HB5 := Aside0.mk (below_step HB4.out hb)
      clear hb
      go_wp2
      go_ret
      exact ⟨rfl, HB5.out⟩
    | false =>
      have e1 : qtS s = ⟨#[]⟩ := by rw [qtS, if_neg (by rw [ht]; simp), if_neg (by rw [hv]; simp)]
      have e2 : qtOk s = false := by rw [qtOk, ht, hv]; rfl
      rw [e1, e2] at HQ
      clear e1 e2 ht hv hz hzb
      go_enter Try.func10, Try.ntmps10
      go_wp2
      go_quiet (fail)
      go_wp2_with fail
      rw [← HSD.out, ← HBD.out]
      refine (HQ.out _).mono ?_
      rintro e w1 ⟨rfl, hb⟩
      have HB1 := Aside0.mk (below_step (pw_below_drewN (Below.refl _ _) _) hb)
      clear hb
      go_wp2_with fail
      refine (lives4_any _).mono ?_
      rintro e w5 ⟨rfl, hb⟩
      have HB5 := Aside0.mk (below_step HB1.out hb)
      clear hb
      go_wp2
      go_ret
      exact ⟨rfl, HB5.out⟩
end Go.Proofs.Ytbelgmfhaddhmaa.Q
