/- The walks of the laws LinesFeed and LinesCuts. -/
import Derived.Test.YtabegfdmmjhfdaaPureA
import Derived.Test.YtabegfdmmjhfdaaExtE
import Derived.Test.YtabegfdmmjhfdaaExtF
namespace Go.Proofs.Ytabegfdmmjhfdaa.Q
open Go.RowKit Go.Proofs.YtabegfdmmjhfdaaW.PrintWords
open Go.Proofs.Ytabegfdmmjhfdaa.Plain Go.Proofs.Ytabegfdmmjhfdaa.Pure
set_option linter.unusedVariables false

theorem run_whole (l : List Int) : ∀ (out : List ByteArray) (st : St), st.whole = false → (run l (out, st)).2.whole = false := by
  induction l with
  | nil => intro out st h; exact h
  | cons c cs ih =>
    intro out st h
    rw [run]
    split
    · exact h
    · split
      · rename_i h2
        show (see st c).1.whole = false
        rw [see_err h2]; exact h
      · split
        · exact ih _ _ rfl
        · rename_i h3
          exact ih _ _ (by simpa using h3)
theorem run_len (l : List Int) : ∀ (out : List ByteArray) (st : St), (run l (out, st)).1.length ≤ out.length + l.length := by
  induction l with
  | nil => intro out st; simp [run]
  | cons c cs ih =>
    intro out st
    rw [run]
    split
    · simp
    · split
      · simp
      · split
        · have := ih (out ++ [strOfNums (see st c).1.line]) (see st c).1.taken
          simp at this ⊢; omega
        · have := ih out (see st c).1
          simp at this ⊢; omega
theorem RunAt.first (most : Int) (l : List Int) (h0 : 0 ≤ most) (h1 : most ≤ 65536) (hl : l.length ≤ 4000) : RunAt (run l ([], fresh most)) [] l [] (fresh most) :=
  ⟨rfl, fresh_ok most h0 h1, rfl, rfl, by simp [wt, fresh], by simp [fresh]; omega⟩
/-- joined, by its contract. -/
def JoinedIs (l : List ByteArray) (s : ByteArray) (ok : Bool) : Prop := ∃ k, Go.Proofs.Ytabegfdmmjhfdaa.S.abutmentlaw16_joined.f k l = some (s, ok)
theorem joined_any (l : List ByteArray) (s : ByteArray) (ok : Bool) (h : JoinedIs l s ok) (W : World) (A : Option Addr) (C : Nat) (hc : Kd.C Kd.string W A l.length l) (hC : l.length ≤ C) :
    Calls Try.prog 6 #[.slice A l.length C] W fun e w' => e = .returned (.tuple #[.string s, .bool ok]) ∧ Drawn0 W w' := by
  obtain ⟨k, hk⟩ := h
  exact Go.Proofs.Ytabegfdmmjhfdaa.S.abutmentlaw16_joined.calls k A C l s ok W hc hC hk
theorem same_any (l : List ByteArray) (hl : l.length ≤ 140737488351232) (W : World) (A A' : Option Addr) (C C' : Nat) (hc : Kd.C Kd.string W A l.length l) (hC : l.length ≤ C) (hc' : Kd.C Kd.string W A' l.length l) (hC' : l.length ≤ C') :
    Calls Try.prog 11 #[.slice A l.length C, .slice A' l.length C'] W fun e w' => e = .returned (.bool true) ∧ Drawn0 W w' := by
  obtain ⟨k, hk⟩ := (same_ev l hl).rounds
  exact Go.Proofs.Ytabegfdmmjhfdaa.S.abutmentref01_Same.calls k A C l A' C' l true W hc hC hc' hC' hk
/-- An owned row of strings, as a slice that is read. -/
theorem Outs.reads {w : World} {b : Nat} {v : Value} {outs : List ByteArray} (h : Outs w b v outs) : ∃ A c, v = .slice A outs.length c ∧ outs.length ≤ c ∧ Kd.C Kd.string w A outs.length outs :=
  Kd.R_reads (Kd.R_of_own (enc := Value.string) (h1 := fun _ => rfl) (ok := fun _ => True) h (fun _ _ => trivial))
theorem Outs.below {w w' : World} {b : Nat} {v : Value} {outs : List ByteArray} (h : Outs w b v outs) (hb : Below w.heap.size w w') : Outs w' b v outs := pw_own_below h hb

theorem IsL.below2 {w w' : World} {B g : Nat} {st : St} (h : IsL w B g st) (hb : Below w.heap.size w w') : IsL w' B g st := by
  obtain ⟨hB, lv, hk, ho⟩ := h
  exact ⟨hB, lv, blk_below hk hb, pw_own_below ho hb⟩
set_option maxHeartbeats 2000000 in
set_option maxRecDepth 100000 in
theorem feedlaw_out (most : Int) (A : Option Addr) (C : Nat) (l : List ByteArray) (s : ByteArray) (ok : Bool) (W : World) (hj : Hid (JoinedIs l s ok)) (hc : Aside0 (Kd.C Kd.string W A l.length l)) (hC : l.length ≤ C) (hm : most < 0 ∨ 65536 < most) :
    Calls Try.prog 3 #[.int .i64 most, .slice A l.length C] W fun e w' => e = .returned (.bool true) ∧ Below W.heap.size W w' := by
  cases ok with
  | false =>
    rcases hm with hm | hm
    · go_enter Try.func3, Try.ntmps3
      go_wp2_with fail
      refine (joined_any l s false hj.out _ A C hc.out hC).mono ?_
      rintro e w1 ⟨rfl, ⟨n, rfl⟩⟩
      go_wp2_with fail
      refine (new_none _ most (.inl hm)).mono ?_
      rintro e w1 ⟨rfl, rfl⟩
      go_wp2_with fail
      refine (lives_any _).mono ?_
      rintro e w1 ⟨rfl, hb⟩
      go_wp2
      go_ret
      exact ⟨rfl, below_step (pw_below_drewN (Below.refl _ _) _) hb⟩
    · have hm0 : ¬ most < 0 := by omega
      go_enter Try.func3, Try.ntmps3
      go_wp2_with fail
      refine (joined_any l s false hj.out _ A C hc.out hC).mono ?_
      rintro e w1 ⟨rfl, ⟨n, rfl⟩⟩
      go_wp2_with fail
      refine (new_none _ most (.inr hm)).mono ?_
      rintro e w1 ⟨rfl, rfl⟩
      go_wp2_with fail
      refine (lives_any _).mono ?_
      rintro e w1 ⟨rfl, hb⟩
      go_wp2
      go_ret
      exact ⟨rfl, below_step (pw_below_drewN (Below.refl _ _) _) hb⟩
  | true =>
    rcases hm with hm | hm
    · go_enter Try.func3, Try.ntmps3
      go_wp2_with fail
      refine (joined_any l s true hj.out _ A C hc.out hC).mono ?_
      rintro e w1 ⟨rfl, ⟨n, rfl⟩⟩
      go_wp2_with fail
      refine (new_none _ most (.inl hm)).mono ?_
      rintro e w1 ⟨rfl, rfl⟩
      go_wp2_with fail
      refine (lives_any _).mono ?_
      rintro e w1 ⟨rfl, hb⟩
      go_wp2
      go_ret
      exact ⟨rfl, below_step (pw_below_drewN (Below.refl _ _) _) hb⟩
    · have hm0 : ¬ most < 0 := by omega
      go_enter Try.func3, Try.ntmps3
      go_wp2_with fail
      refine (joined_any l s true hj.out _ A C hc.out hC).mono ?_
      rintro e w1 ⟨rfl, ⟨n, rfl⟩⟩
      go_wp2_with fail
      refine (new_none _ most (.inr hm)).mono ?_
      rintro e w1 ⟨rfl, rfl⟩
      go_wp2_with fail
      refine (lives_any _).mono ?_
      rintro e w1 ⟨rfl, hb⟩
      go_wp2
      go_ret
      exact ⟨rfl, below_step (pw_below_drewN (Below.refl _ _) _) hb⟩

set_option maxHeartbeats 2000000 in
set_option maxRecDepth 100000 in
theorem feedlaw_no (most : Int) (A : Option Addr) (C : Nat) (l : List ByteArray) (s : ByteArray) (W : World) (hj : Hid (JoinedIs l s false)) (hc : Aside0 (Kd.C Kd.string W A l.length l)) (hC : l.length ≤ C) (h0 : 0 ≤ most) (h1 : most ≤ 65536) :
    Calls Try.prog 3 #[.int .i64 most, .slice A l.length C] W fun e w' => e = .returned (.bool true) ∧ Below W.heap.size W w' := by
  have d0 : decide (most < 0) = false := decide_eq_false (by omega)
  have d1 : decide (65536 < most) = false := decide_eq_false (by omega)
  go_enter Try.func3, Try.ntmps3
  go_wp2_with fail
  refine (joined_any l s false hj.out _ A C hc.out hC).mono ?_
  rintro e w1 ⟨rfl, ⟨n, rfl⟩⟩
  go_wp2_with fail
  refine (new_some _ most h0 h1).mono ?_
  rintro e w1 ⟨rfl, rfl⟩
  go_wp2_with fail
  refine (lives_any _).mono ?_
  rintro e w1 ⟨rfl, hb⟩
  go_wp2
  go_ret
  exact ⟨rfl, below_step (below_alloc (pw_below_drewN (Below.refl _ _) _) _) hb⟩

set_option maxHeartbeats 4000000 in
set_option maxRecDepth 100000 in
theorem feedlaw_yes (most : Int) (A : Option Addr) (C : Nat) (l : List ByteArray) (s : ByteArray) (W : World) (hj : Hid (JoinedIs l s true)) (hc : Aside0 (Kd.C Kd.string W A l.length l)) (hC : l.length ≤ C) (h0 : 0 ≤ most) (h1 : most ≤ 65536)
    (hs : Hid (bytesOf s = cat l)) (hl : l.length ≤ 200) (hss : s.size ≤ 4000) :
    Calls Try.prog 3 #[.int .i64 most, .slice A l.length C] W fun e w' => e = .returned (.bool true) ∧ Below W.heap.size W w' := by
  obtain ⟨T, hT⟩ : ∃ T, T = run (bytesOf s) ([], fresh most) := ⟨_, rfl⟩
  have HT := Lib.hid hT
  have HR : Aside0 (RunAt T [] (cat l) [] (fresh most)) := ⟨by rw [hT, hs.out]; exact RunAt.first most _ h0 h1 (by rw [← hs.out, bytesOf_length]; exact hss)⟩
  have HW : Hid (T.2.whole = false) := by show T.2.whole = false; rw [hT]; exact run_whole _ _ _ rfl
  have HLn : T.1.length ≤ 4000 := by rw [hT]; have := run_len (bytesOf s) [] (fresh most); rw [bytesOf_length] at this; simp at this; omega
  clear hT
  go_enter Try.func3, Try.ntmps3
  go_wp2_with fail
  refine (joined_any l s true hj.out _ A C hc.out hC).mono ?_
  rintro e w1 ⟨rfl, ⟨n, rfl⟩⟩
  go_wp2_with fail
  refine (new_some _ most h0 h1).mono ?_
  rintro e w1 ⟨rfl, rfl⟩
  go_wp2_with fail
  refine (feeds_any _ W.heap.size W.heap.size (fresh most) A C l T (fresh_is (W.drewN n) W.heap.size most (Nat.le_refl _)) (by simp) HR.out hl rfl (fun W' hb _ => Kd.C_below hc.out (((below_alloc (pw_below_drewN (Below.refl W.heap.size W) n) _)).trans hb))).mono ?_
  rintro e w2 ⟨v, rfl, hO, hL, hb, hE⟩
  obtain ⟨A2, c2, hv, hc2, hC2⟩ := hO.reads
  rw [hv]
  have HL := Aside0.mk hL
  have HB := Aside0.mk ((below_alloc (pw_below_drewN (Below.refl W.heap.size W) n) (.cells #[.int .i64 most, .int .i64 0, .slice none 0 0, .bool false, .bool false, .bool false, .int .i64 0] 38)).trans hb)
  have HC2 := Aside0.mk hC2
  clear hv hO hL hb hE hC2
  go_wp2_with fail
  refine (read_any w2 s most hss h0 h1 T HT.out).mono ?_
  rintro e w3 ⟨v3, rfl, hO3, hb3⟩
  obtain ⟨A3, c3, hv3, hc3, hC3⟩ := hO3.reads
  rw [hv3]
  have HL3 := Aside0.mk (HL.out.below2 hb3)
  have HB3 := Aside0.mk (below_step HB.out hb3)
  have HC3 := Aside0.mk hC3
  have HD3 := Aside0.mk (Kd.C_below HC2.out hb3)
  clear hv3 hO3 hb3 hC3 HL HB HC2
  go_wp2_with fail
  refine (same_any T.1 (by omega) w3 A2 A3 c2 c3 HD3.out hc2 HC3.out hc3).mono ?_
  rintro e w4 ⟨rfl, ⟨m, rfl⟩⟩
  go_wp2_with fail
  refine (spent_any _ _ _ T.2 (HL3.out.drewN m)).mono ?_
  rintro e w4 ⟨rfl, rfl⟩
  go_wp2_with fail
  refine (within_any _ _ _ T.2 (HL3.out.drewN m)).mono ?_
  rintro e w4 ⟨rfl, rfl⟩
  go_wp2_with fail
  refine (whole_any _ _ _ T.2 false (HL3.out.drewN m) HW).mono ?_
  rintro e w4 ⟨rfl, rfl⟩
  go_wp2_with fail
  refine (lives_any _).mono ?_
  rintro e w5 ⟨rfl, hb5⟩
  have HB5 := Aside0.mk (below_step (pw_below_drewN HB3.out m) hb5)
  clear hb5
  go_wp2
  go_ret
  exact ⟨rfl, HB5.out⟩

/-- What a row says of a slice of strings that came in. -/
structure Came (W : World) (A : Option Addr) (L C : Nat) (l : List ByteArray) : Prop where
  len : L = l.length
  cap : l.length ≤ C
  few : l.length ≤ 140737488351232
  read : Kd.C Kd.string W A l.length l

theorem feed_walk (most : Int) (A : Option Addr) (L C : Nat) (l : List ByteArray) (W : World) (_hm : (Lit.int .i64 most).wf = true) (hc : Came W A L C l) :
    Calls Try.prog 3 #[.int .i64 most, .slice A L C] W fun e w' => e = .returned (.bool true) ∧ Below W.heap.size W w' := by
  obtain ⟨rfl, hcap, hfew, hread⟩ := hc
  obtain ⟨s, ok, hj, hyes⟩ := joined_ev l hfew
  have HJ : Hid (JoinedIs l s ok) := hj.rounds
  by_cases hm : 0 ≤ most ∧ most ≤ 65536
  · cases ok with
    | false => exact feedlaw_no most A C l s W HJ ⟨hread⟩ hcap hm.1 hm.2
    | true =>
      obtain ⟨h1, h2, h3⟩ := hyes rfl
      exact feedlaw_yes most A C l s W HJ ⟨hread⟩ hcap hm.1 hm.2 h1 h2 h3
  · exact feedlaw_out most A C l s ok W HJ ⟨hread⟩ hcap (by omega)

theorem spent_blk (W : World) (g : Nat) (l s e : Int) (lv : Value) (a b c : Bool) (h : W.heap[g]? = some (.cells #[.int .i64 l, .int .i64 s, lv, .bool a, .bool b, .bool c, .int .i64 e] 38 (0, 0))) : Calls Try.prog 12 #[.pointer (some ⟨g, 0, none⟩)] W fun e w' => e = .returned (.int .i64 s) ∧ W = w' := by
  obtain ⟨c0, c1, c2, c3, c4, c5, c6⟩ := lines_cells h
  clear h
  go_enter Try.func12, Try.ntmps12
  go_wp2
  go_ret
  exact ⟨rfl, rfl⟩
theorem within_blk (W : World) (g : Nat) (l s e : Int) (lv : Value) (a b c : Bool) (h : W.heap[g]? = some (.cells #[.int .i64 l, .int .i64 s, lv, .bool a, .bool b, .bool c, .int .i64 e] 38 (0, 0))) : Calls Try.prog 13 #[.pointer (some ⟨g, 0, none⟩)] W fun e w' => e = .returned (.bool a) ∧ W = w' := by
  obtain ⟨c0, c1, c2, c3, c4, c5, c6⟩ := lines_cells h
  clear h
  go_enter Try.func13, Try.ntmps13
  go_wp2
  go_ret
  exact ⟨rfl, rfl⟩
theorem Eff.blk {g : Nat} {w w' : World} (h : Eff g w w') {k t : Nat} {cs : Array Value} (hb : w.heap[k]? = some (.cells cs t (0, 0))) (hk : k ≠ g) (ht : t ≠ 5) : w'.heap[k]? = some (.cells cs t (0, 0)) :=
  (h.2 k (blk_lt hb) hk (fun cs' fr e => by rw [hb] at e; injection e with e; injection e with _ h3; exact ht h3)).trans hb
theorem one_string {w : World} {g : Nat} {s : ByteArray} (h : w.heap[g]? = some (.cells #[.string s] 9 (0, 0))) : Kd.C Kd.string w (some ⟨g, 0, none⟩) [s].length [s] :=
  Kd.C_of_reads (enc := Value.string) (d := ByteArray.empty) (h1 := fun _ => rfl) ⟨rfl, by simp, fun _ => ⟨_, rfl, fun j hj => by
    have hj : j = 0 := by simp at hj; omega
    subst hj
    rw [add_plain]
    exact (blk_cell h 0).trans rfl⟩⟩

set_option maxHeartbeats 2000000 in
set_option maxRecDepth 100000 in
theorem cuts_no (most : Int) (A : Option Addr) (C : Nat) (l : List ByteArray) (s : ByteArray) (ok : Bool) (W : World) (hj : Hid (JoinedIs l s ok)) (hc : Aside0 (Kd.C Kd.string W A l.length l)) (hC : l.length ≤ C) (hm : ok = false ∨ most < 0 ∨ 65536 < most) :
    Calls Try.prog 4 #[.int .i64 most, .slice A l.length C] W fun e w' => e = .returned (.bool true) ∧ Below W.heap.size W w' := by
  cases ok with
  | false =>
    go_enter Try.func4, Try.ntmps4
    go_wp2_with fail
    refine (joined_any l s false hj.out _ A C hc.out hC).mono ?_
    rintro e w1 ⟨rfl, ⟨n, rfl⟩⟩
    go_wp2_with fail
    refine (lives_any _).mono ?_
    rintro e w1 ⟨rfl, hb⟩
    go_wp2
    go_ret
    exact ⟨rfl, below_step (pw_below_drewN (Below.refl _ _) _) hb⟩
  | true =>
    have hm2 : most < 0 ∨ 65536 < most := by simpa using hm
    clear hm
    rcases hm2 with hm | hm
    · go_enter Try.func4, Try.ntmps4
      go_wp2_with fail
      refine (joined_any l s true hj.out _ A C hc.out hC).mono ?_
      rintro e w1 ⟨rfl, ⟨n, rfl⟩⟩
      go_wp2_with fail
      refine (lives_any _).mono ?_
      rintro e w1 ⟨rfl, hb⟩
      go_wp2
      go_ret
      exact ⟨rfl, below_step (pw_below_drewN (Below.refl _ _) _) hb⟩
    · have hm0 : ¬ most < 0 := by omega
      go_enter Try.func4, Try.ntmps4
      go_wp2_with fail
      refine (joined_any l s true hj.out _ A C hc.out hC).mono ?_
      rintro e w1 ⟨rfl, ⟨n, rfl⟩⟩
      go_wp2_with fail
      refine (lives_any _).mono ?_
      rintro e w1 ⟨rfl, hb⟩
      go_wp2
      go_ret
      exact ⟨rfl, below_step (pw_below_drewN (Below.refl _ _) _) hb⟩

set_option maxHeartbeats 4000000 in
set_option maxRecDepth 100000 in
theorem cuts_yes (most : Int) (A : Option Addr) (C : Nat) (l : List ByteArray) (s : ByteArray) (W : World) (hj : Hid (JoinedIs l s true)) (hc : Aside0 (Kd.C Kd.string W A l.length l)) (hC : l.length ≤ C) (h0 : 0 ≤ most) (h1 : most ≤ 65536)
    (hs : Hid (bytesOf s = cat l)) (hl : l.length ≤ 200) (hss : s.size ≤ 4000) :
    Calls Try.prog 4 #[.int .i64 most, .slice A l.length C] W fun e w' => e = .returned (.bool true) ∧ Below W.heap.size W w' := by
  obtain ⟨T, hT⟩ : ∃ T, T = run (bytesOf s) ([], fresh most) := ⟨_, rfl⟩
  have HT := Lib.hid hT
  have HR : Aside0 (RunAt T [] (cat l) [] (fresh most)) := ⟨by rw [hT, hs.out]; exact RunAt.first most _ h0 h1 (by rw [← hs.out, bytesOf_length]; exact hss)⟩
  have HR2 : Aside0 (RunAt T [] (cat [s]) [] (fresh most)) := ⟨by rw [hT, show cat [s] = bytesOf s by simp [cat]]; exact RunAt.first most _ h0 h1 (by rw [bytesOf_length]; exact hss)⟩
  have HLn : T.1.length ≤ 4000 := by rw [hT]; have := run_len (bytesOf s) [] (fresh most); rw [bytesOf_length] at this; simp at this; omega
  clear hT
  go_enter Try.func4, Try.ntmps4
  go_wp2_with fail
  refine (joined_any l s true hj.out _ A C hc.out hC).mono ?_
  rintro e w1 ⟨rfl, ⟨n, rfl⟩⟩
  go_wp2_with fail
  refine (new_some _ most h0 h1).mono ?_
  rintro e w1 ⟨rfl, rfl⟩
  go_wp2_with fail
  refine (new_some _ most h0 h1).mono ?_
  rintro e w1 ⟨rfl, rfl⟩
  have HB := Aside0.mk (below_alloc (below_alloc (pw_below_drewN (Below.refl W.heap.size W) n) (.cells #[.int .i64 most, .int .i64 0, .slice none 0 0, .bool false, .bool false, .bool false, .int .i64 0] 38)) (.cells #[.int .i64 most, .int .i64 0, .slice none 0 0, .bool false, .bool false, .bool false, .int .i64 0] 38))
  have HP := Aside0.mk ((fresh_is (W.drewN n) W.heap.size most (Nat.le_refl _)).alloc (.cells #[.int .i64 most, .int .i64 0, .slice none 0 0, .bool false, .bool false, .bool false, .int .i64 0] 38))
  have HQ : Aside0 ((((W.drewN n).alloc (.cells #[.int .i64 most, .int .i64 0, .slice none 0 0, .bool false, .bool false, .bool false, .int .i64 0] 38)).alloc (.cells #[.int .i64 most, .int .i64 0, .slice none 0 0, .bool false, .bool false, .bool false, .int .i64 0] 38)).heap[W.heap.size + 1]? = some (.cells #[.int .i64 most, .int .i64 0, .slice none 0 0, .bool false, .bool false, .bool false, .int .i64 0] 38 (0, 0))) := ⟨by have := blk_new ((W.drewN n).alloc (.cells #[.int .i64 most, .int .i64 0, .slice none 0 0, .bool false, .bool false, .bool false, .int .i64 0] 38)) (.cells #[.int .i64 most, .int .i64 0, .slice none 0 0, .bool false, .bool false, .bool false, .int .i64 0] 38); simpa using this⟩
  go_wp2_with fail
  refine (feeds_any _ W.heap.size W.heap.size (fresh most) A C l T HP.out (by simp; omega) HR.out hl rfl (fun W' hb _ => Kd.C_below hc.out (HB.out.trans hb))).mono ?_
  rintro e w2 ⟨v, rfl, hO, hL, hb, hE⟩
  obtain ⟨A2, c2, hv, hc2, hC2⟩ := hO.reads
  have hQ := hE.blk HQ.out (by omega) (by decide)
  have HB2 := Aside0.mk (HB.out.trans hb)
  have HO2 := Aside0.mk hO
  have HQ2 := Aside0.mk hQ
  obtain ⟨_, lv, hP, _⟩ := hL
  have HP2 := Aside0.mk hP
  have HV := Lib.hid hv
  have hsz : W.heap.size + 1 < w2.heap.size := blk_lt hQ
  rw [hv]
  clear hv hO hb hE hC2 hQ hP HB HP HQ
  go_wp2_with fail
  have HQ3 := Aside0.mk (blk_alloc HQ2.out (.cells #[.string s] 9))
  have HP3 := Aside0.mk (blk_alloc HP2.out (.cells #[.string s] 9))
  have HO3 := Aside0.mk (World.ownsRow.alloc HO2.out (.cells #[.string s] 9))
  have HS3 := Aside0.mk (blk_new w2 (.cells #[.string s] 9))
  have HB3 := Aside0.mk (below_alloc HB2.out (.cells #[.string s] 9))
  have HI3 : Aside0 (IsL (w2.alloc (.cells #[.string s] 9)) W.heap.size (W.heap.size + 1) (fresh most)) := ⟨⟨by omega, .slice none 0 0, HQ3.out, own_nil _ _ _ _⟩⟩
  clear HQ2 HP2 HO2 HB2
  refine (feeds_any _ W.heap.size (W.heap.size + 1) (fresh most) (some ⟨w2.heap.size, 0, none⟩) 1 [s] T HI3.out (by simp; omega) HR2.out (by simp) rfl (fun W' _ he => one_string (he.blk HS3.out (by omega) (by decide)))).mono ?_
  rintro e w3 ⟨v3, rfl, hO3, hL3, hb3, hE3⟩
  obtain ⟨A3, c3, hv3, hc3, hC3⟩ := hO3.reads
  obtain ⟨A4, c4, hv4, hc4, hC4⟩ := (Outs.eff (outs := T.1) HO3.out HI3.out hE3).reads
  have HP4 := Aside0.mk (hE3.blk HP3.out (by omega) (by decide))
  have HB4 := Aside0.mk (HB3.out.trans hb3)
  obtain ⟨_, lv4, hQ4, _⟩ := hL3
  have HQ4 := Aside0.mk hQ4
  rw [HV.out] at hv4
  obtain ⟨rfl, rfl⟩ : A2 = A4 ∧ c2 = c4 := by injection hv4 with h1 h2 h3; exact ⟨h1, h3⟩
  have HC3 := Aside0.mk hC3
  have HC4 := Aside0.mk hC4
  rw [hv3]
  clear hv3 hO3 hb3 hE3 hC3 hC4 hQ4 hv4 HQ3 HP3 HO3 HS3 HB3 HI3
  go_wp2_with fail
  refine (same_any T.1 (by omega) w3 A2 A3 c2 c3 HC4.out hc2 HC3.out hc3).mono ?_
  rintro e w4 ⟨rfl, ⟨m, rfl⟩⟩
  go_wp2_with fail
  refine (spent_blk _ _ _ _ _ _ _ _ _ (blk_drewN HP4.out m)).mono ?_
  rintro e w4 ⟨rfl, rfl⟩
  go_wp2_with fail
  refine (spent_blk _ _ _ _ _ _ _ _ _ (blk_drewN HQ4.out m)).mono ?_
  rintro e w4 ⟨rfl, rfl⟩
  go_wp2_with fail
  refine (within_blk _ _ _ _ _ _ _ _ _ (blk_drewN HP4.out m)).mono ?_
  rintro e w4 ⟨rfl, rfl⟩
  go_wp2_with fail
  refine (within_blk _ _ _ _ _ _ _ _ _ (blk_drewN HQ4.out m)).mono ?_
  rintro e w4 ⟨rfl, rfl⟩
  go_wp2_with fail
  refine (lives_any _).mono ?_
  rintro e w5 ⟨rfl, hb5⟩
  have HB5 := Aside0.mk (below_step (pw_below_drewN HB4.out m) hb5)
  clear hb5
  go_wp2
  go_ret
  exact ⟨rfl, HB5.out⟩

theorem cuts_walk (most : Int) (A : Option Addr) (L C : Nat) (l : List ByteArray) (W : World) (_hm : (Lit.int .i64 most).wf = true) (hc : Came W A L C l) :
    Calls Try.prog 4 #[.int .i64 most, .slice A L C] W fun e w' => e = .returned (.bool true) ∧ Below W.heap.size W w' := by
  obtain ⟨rfl, hcap, hfew, hread⟩ := hc
  obtain ⟨s, ok, hj, hyes⟩ := joined_ev l hfew
  have HJ : Hid (JoinedIs l s ok) := hj.rounds
  by_cases hm : 0 ≤ most ∧ most ≤ 65536
  · cases ok with
    | false => exact cuts_no most A C l s false W HJ ⟨hread⟩ hcap (.inl rfl)
    | true =>
      obtain ⟨h1, h2, h3⟩ := hyes rfl
      exact cuts_yes most A C l s W HJ ⟨hread⟩ hcap hm.1 hm.2 h1 h2 h3
  · exact cuts_no most A C l s ok W HJ ⟨hread⟩ hcap (.inr (by omega))
end Go.Proofs.Ytabegfdmmjhfdaa.Q
