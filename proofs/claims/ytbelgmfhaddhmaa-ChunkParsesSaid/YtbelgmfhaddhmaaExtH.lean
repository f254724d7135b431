/- lives of layer 4, the reference's contracts, and the walk of CursorQuotes. -/
import Derived.Test.YtbelgmfhaddhmaaPureR
namespace Go.Proofs.Ytbelgmfhaddhmaa.Q
open Go.RowKit Go.Proofs.YtbelgmfhaddhmaaW.PrintWords Go.Proofs.YtbelgmfhaddhmaaW.PrintMore Go.Proofs.Ytbelgmfhaddhmaa.R Go.Proofs.Ytbelgmfhaddhmaa.Pure
attribute [local go_sem] max2_int min2_int max_two min_two max_three min_three max_four min_four
set_option linter.unusedVariables false

theorem quote_any (s : ByteArray) (hs : s.size ≤ 35184372088832) (w : World) : Calls Try.prog 48 #[.string s] w fun e w' => e = .returned (.tuple #[.string (qtS s), .bool (qtOk s)]) ∧ Below w.heap.size w w' :=
  cursor_Quote.calls s (qtS s) (qtOk s) w (by rw [cursor_Quote.f, if_pos hs])
theorem rquote_any (s : ByteArray) (hs : s.size ≤ 35184372088832) (w : World) : Calls Try.prog 62 #[.string s] w fun e w' => e = .returned (.tuple #[.string (qtS s), .bool (qtOk s)]) ∧ Below w.heap.size w w' := by
  obtain ⟨k, hk⟩ := (rquote_ev s hs).rounds
  exact (abutmentref04_Quote.calls k s _ _ w hk).mono (fun e w' h => ⟨h.1, h.2.below⟩)
theorem rskip_any (L : ByteArray) (hs : L.size ≤ 140737488351232) (w : World) : Calls Try.prog 55 #[.string L] w fun e w' => e = .returned (.int .i64 ((spn blI L : Nat) : Int)) ∧ Below w.heap.size w w' := by
  obtain ⟨k, hk⟩ := (rskip_ev L hs).rounds
  exact (abutmentref04_Skip.calls k L _ w hk).mono (fun e w' h => ⟨h.1, h.2.below⟩)
theorem rtoken_any (L : ByteArray) (hs : L.size ≤ 140737488351232) (w : World) : Calls Try.prog 57 #[.string L] w fun e w' => e = .returned (.int .i64 ((spn tcI L : Nat) : Int)) ∧ Below w.heap.size w w' := by
  obtain ⟨k, hk⟩ := (rtoken_ev L hs).rounds
  exact (abutmentref04_Token.calls k L _ w hk).mono (fun e w' h => ⟨h.1, h.2.below⟩)
theorem runtil_any (L : ByteArray) (b : Int) (hs : L.size ≤ 140737488351232) (w : World) : Calls Try.prog 58 #[.string L, .int .u8 b] w fun e w' => e = .returned (.int .i64 ((spn (neI b) L : Nat) : Int)) ∧ Below w.heap.size w w' := by
  obtain ⟨k, hk⟩ := (runtil_ev L b hs).rounds
  exact (abutmentref04_Until.calls k L b _ w hk).mono (fun e w' h => ⟨h.1, h.2.below⟩)
theorem rquoted_any (L : ByteArray) (hs : L.size ≤ 140737488351232) (w : World) : Calls Try.prog 60 #[.string L] w fun e w' => e = .returned (.tuple #[.string (qs L), .int .i64 ((qn L : Nat) : Int)]) ∧ Below w.heap.size w w' := by
  obtain ⟨k, hk⟩ := (rquoted_ev L hs).rounds
  exact (abutmentref04_Quoted.calls k L _ _ w hk).mono (fun e w' h => ⟨h.1, h.2.below⟩)

theorem live_q : qtS (⟨#[97, 32, 98]⟩ : ByteArray) = ⟨#[34, 97, 32, 98, 34]⟩ ∧ qtOk (⟨#[97, 32, 98]⟩ : ByteArray) = true := by decide +kernel
def liveS : ByteArray := ⟨#[34, 97, 92, 34, 98, 34, 120]⟩
theorem live_s : qs liveS = ⟨#[97, 34, 98]⟩ ∧ (Q.quoted liveS).isSome = true ∧ ofs liveS (qn liveS) = ⟨#[120]⟩ := by decide +kernel
theorem lit_eq (l : List UInt8) : ((⟨l.toArray⟩ : ByteArray).toList == l) = true := by
  rw [Lib.toList_data]; simp
set_option maxHeartbeats 2000000 in
theorem lives4_any (w : World) : Calls Try.prog 49 #[] w fun e w' => e = .returned (.bool true) ∧ Below w.heap.size w w' := by
  obtain ⟨l1, l2⟩ := live_q
  obtain ⟨l3, l4, l5⟩ := live_s
  have HC0 : Aside0 (∀ w, Calls Try.prog 48 #[.string (⟨#[97, 32, 98]⟩ : ByteArray)] w fun e w' => e = .returned (.tuple #[.string (⟨#[34, 97, 32, 98, 34]⟩ : ByteArray), .bool true]) ∧ Below w.heap.size w w') := ⟨fun w => by
    have := quote_any (⟨#[97, 32, 98]⟩ : ByteArray) (by decide) w
    rwa [l1, l2] at this⟩
  have HC1 : Aside0 (∀ w g, CurL w g liveS → Calls Try.prog 53 #[.pointer (some ⟨g, 0, none⟩)] w fun e w' => e = .returned (.tuple #[.string (⟨#[97, 34, 98]⟩ : ByteArray), .bool true]) ∧ CurL w' g (⟨#[120]⟩ : ByteArray) ∧ Eff g w w') := ⟨fun w g h => by
    have := quoted_any w g liveS h
    unfold QPost at this
    rwa [l3, l4, l5] at this⟩
  clear l1 l2 l3 l4 l5
  have k1 := lit_eq [34, 97, 32, 98, 34]
  have k2 := lit_eq [97, 34, 98]
  have k3 := lit_eq [120]
  go_enter Try.func49, Try.ntmps49
  go_wp2_with fail
  refine (HC0.out _).mono ?_
  rintro e w1 ⟨rfl, hb⟩
  have HB1 := Aside0.mk hb
  clear hb
  go_wp2_with fail
  refine (new_any liveS (by decide) _).mono ?_
  rintro e w2 ⟨rfl, hc, hb⟩
  have HC2 := Aside0.mk hc
  have HB2 := Aside0.mk (below_step HB1.out hb)
  have hs1 := HB1.out.size
  clear hc hb
  go_wp2_with fail
  refine (HC1.out _ _ HC2.out).mono ?_
  rintro e w3 ⟨rfl, hc, hE⟩
  have HC3 := Aside0.mk hc
  have HB3 := Aside0.mk (hE.below HB2.out HB2.out.size hs1)
  clear hc hE hs1
  go_wp2_with fail
  refine (left_any _ _ _ HC3.out).mono ?_
  rintro e w4 ⟨rfl, hb⟩
  have HB4 := Aside0.mk (below_step HB3.out hb)
  clear hb
  go_wp2
  go_ret
  exact ⟨rfl, HB4.out⟩
theorem min_in (s : ByteArray) (n : Nat) (hn : n = 1000 ∨ n = 300 ∨ n = 60 ∨ n = 2000) : ∃ m : Nat, (if (n : Int) < (s.size : Int) then (n : Int) else (s.size : Int)) = (m : Int) ∧ m ≤ s.size ∧ m ≤ n := by
  by_cases h : (n : Int) < (s.size : Int)
  · exact ⟨n, if_pos h, by omega, Nat.le_refl _⟩
  · exact ⟨s.size, if_neg h, Nat.le_refl _, by omega⟩
theorem same_s (s : ByteArray) : (s.toList == s.toList) = true := by simp
set_option maxHeartbeats 4000000 in
theorem quotes_walk (a0 : ByteArray) (W : World) (hs : a0.size ≤ 140737488351232) : Calls Try.prog 12 #[.string a0] W fun e w' => e = .returned (.bool true) ∧ Below W.heap.size W w' := by
  obtain ⟨m, hm, hm1, hm2⟩ := min_in a0 1000 (.inl rfl)
  have hm : (if (1000 : Int) < (a0.size : Int) then 1000 else (a0.size : Int)) = (m : Int) := hm
  have hm3 : (m : Int) ≤ (a0.size : Int) := by omega
  have hz : (a0.extract 0 m).size ≤ 35184372088832 := by rw [ByteArray.size_extract]; omega
  obtain ⟨s, hsd⟩ : ∃ s, s = a0.extract 0 m := ⟨_, rfl⟩
  rw [← hsd] at hz
  have HSD := Lib.hid hsd
  have HQ := Aside0.mk (quote_any s hz)
  have HR := Aside0.mk (rquote_any s hz)
  have HSS := same_s (qtS s)
  clear hsd hm1 hm2 hz
  go_enter Try.func12, Try.ntmps12
  go_wp2_with fail
  rw [← HSD.out]
  refine (HQ.out _).mono ?_
  rintro e w1 ⟨rfl, hb⟩
  have HB1 := Aside0.mk hb
  clear hb
  go_wp2_with fail
  refine (HR.out _).mono ?_
  rintro e w2 ⟨rfl, hb⟩
  have HB2 := Aside0.mk (below_step HB1.out hb)
  clear hb
  go_wp2_with fail
  refine (quoted_nil _).mono ?_
  rintro e w3 ⟨rfl, hb⟩
  have HB3 := Aside0.mk (below_step HB2.out hb)
  clear hb
  go_wp2_with fail
  refine (left_nil _).mono ?_
  rintro e w4 ⟨rfl, hb⟩
  have HB4 := Aside0.mk (below_step HB3.out hb)
  clear hb
  go_wp2_with fail
  refine (token_nil _).mono ?_
  rintro e w5 ⟨rfl, hb⟩
  have HB5 := Aside0.mk (below_step HB4.out hb)
  clear hb
  go_wp2_with fail
  refine (until_nil _ _).mono ?_
  rintro e w6 ⟨rfl, hb⟩
  have HB6 := Aside0.mk (below_step HB5.out hb)
  clear hb
  go_wp2_with fail
  refine (done_nil _).mono ?_
  rintro e w7 ⟨rfl, hb⟩
  have HB7 := Aside0.mk (below_step HB6.out hb)
  clear hb
  go_wp2_with fail
  refine (skip_nil _).mono ?_
  rintro e w8 ⟨rfl, hb⟩
  have HB8 := Aside0.mk (below_step HB7.out hb)
  clear hb
  go_wp2_with fail
  refine (byte_nil _ _).mono ?_
  rintro e w9 ⟨rfl, hb⟩
  have HB9 := Aside0.mk (below_step HB8.out hb)
  clear hb
  go_wp2_with fail
  refine (lives4_any _).mono ?_
  rintro e w10 ⟨rfl, hb⟩
  have HB10 := Aside0.mk (below_step HB9.out hb)
  clear hb
  go_wp2
  go_ret
  exact ⟨rfl, HB10.out⟩
end Go.Proofs.Ytbelgmfhaddhmaa.Q
