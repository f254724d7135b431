/- Digits to the base 16, plainly; the walk of the reference's Digits. -/
import Derived.Test.YtbelgmfhaddhmaaExtR
import Derived.Test.YtbelgmfhaddhmaaPureA
namespace Go.Proofs.Ytbelgmfhaddhmaa.Pure
open Go.RowKit Go.Proofs.Ytbelgmfhaddhmaa.Q Go.Proofs.YtbelgmfhaddhmaaW.PrintWords Go.Proofs.YtbelgmfhaddhmaaW.PrintLast Go.Proofs.YtbelgmfhaddhmaaW.PrintMore
set_option linter.unusedVariables false
theorem sg_in (d : Nat) (h : d < 16) : 0 ≤ sgI d ∧ sgI d ≤ 255 ∧ dgI (sgI d) = d ∧ hexI (sgI d) = true := by
  have : ∀ d : Fin 16, 0 ≤ sgI d.val ∧ sgI d.val ≤ 255 ∧ dgI (sgI d.val) = d.val ∧ hexI (sgI d.val) = true := by decide
  exact this ⟨d, h⟩
theorem hx_all (p : Int → Prop) (hp : ∀ d, d < 16 → p (sgI d)) : ∀ (f m : Nat) (acc : List Int), (∀ x ∈ acc, p x) → ∀ x ∈ hx f m acc, p x := by
  intro f
  induction f with
  | zero => intro m acc h; exact h
  | succ f ih =>
    intro m acc h
    rw [hx]
    split
    · exact h
    · refine ih _ _ (fun x hx => ?_)
      rw [List.mem_cons] at hx
      rcases hx with rfl | hx
      · exact hp _ (Nat.mod_lt _ (by omega))
      · exact h x hx
theorem figs_all (p : Int → Prop) (hp : ∀ d, d < 16 → p (sgI d)) (n : Nat) : ∀ x ∈ figsL n, p x :=
  hx_all p hp _ _ _ (fun x hx => by rw [List.mem_singleton] at hx; subst hx; exact hp _ (Nat.mod_lt _ (by omega)))
theorem hx_len : ∀ (f m : Nat) (acc : List Int), acc.length ≤ (hx f m acc).length ∧ (hx f m acc).length ≤ acc.length + f := by
  intro f
  induction f with
  | zero => intro m acc; exact ⟨Nat.le_refl _, Nat.le_refl _⟩
  | succ f ih =>
    intro m acc
    rw [hx]
    split
    · omega
    · have := ih (m / 16) (sgI (m % 16) :: acc)
      rw [List.length_cons] at this
      omega
theorem figs_len (n : Nat) : 1 ≤ (figsL n).length ∧ (figsL n).length ≤ 17 := by
  have := hx_len 16 (n / 16) [sgI (n % 16)]
  rw [List.length_singleton] at this
  exact ⟨this.1, by show (hx 16 (n / 16) [sgI (n % 16)]).length ≤ 17; omega⟩
theorem figs_bytes (n : Nat) : bytesOf (strOfNums (figsL n)) = figsL n :=
  bytesOf_strOf _ (figs_all _ (fun d hd => by have := sg_in d hd; exact ⟨this.1, this.2.1⟩) n)
theorem hx_val : ∀ (f m : Nat) (acc : List Int), m < 16 ^ f → (hx f m acc).foldl (fun a b => a * 16 + dgI b) 0 = acc.foldl (fun a b => a * 16 + dgI b) (m : Int) := by
  intro f
  induction f with
  | zero => intro m acc h; simp at h; subst h; rfl
  | succ f ih =>
    intro m acc h
    rw [hx]
    split
    · rename_i h0; subst h0; rfl
    · rw [Nat.pow_succ] at h
      rw [ih _ _ (Nat.div_lt_of_lt_mul (by omega)), List.foldl_cons, (sg_in (m % 16) (Nat.mod_lt _ (by omega))).2.2.1]
      congr 1
      omega
theorem figs_val (n : Nat) (h : n < 16 ^ 17) : valL (figsL n) = n := by
  unfold valL figsL
  have h' : n / 16 < 16 ^ 16 := Nat.div_lt_of_lt_mul (by rw [Nat.pow_succ] at h; omega)
  rw [hx_val _ _ _ h', List.foldl_cons, List.foldl_nil, (sg_in (n % 16) (Nat.mod_lt _ (by omega))).2.2.1]
  omega
def sigS : ByteArray := ⟨#[48, 49, 50, 51, 52, 53, 54, 55, 56, 57, 97, 98, 99, 100, 101, 102]⟩
theorem sig_cut (d : Nat) (h : d < 16) : bytesOf (sigS.extract d (d + 1)) = [sgI d] := by
  have : ∀ d : Fin 16, bytesOf (sigS.extract d.val (d.val + 1)) = [sgI d.val] := by decide +kernel
  exact this ⟨d, h⟩
theorem sig_size (d : Nat) (h : d < 16) : (sigS.extract d (d + 1)).size = 1 := by rw [← bytesOf_length, sig_cut d h]; rfl
theorem u64_in (x : Int) (h0 : 0 ≤ x) (h1 : x < 18446744073709551616) : IntKind.u64.wrap x = x := by rw [IntKind.wrap_u64]; omega
/-- Where Digits' loop stands. -/
structure DgAt (n m : Nat) (out : ByteArray) : Prop where
  low : m < 18446744073709551616
  at_ : ∃ f acc, m < 16 ^ (f + 1) ∧ bytesOf out = acc ∧ acc.length + f ≤ 40 ∧ hx f (m / 16) (sgI (m % 16) :: acc) = figsL n
theorem DgAt.zero (n : Nat) (hn : n < 18446744073709551616) : DgAt n n ⟨#[]⟩ := ⟨hn, 16, [], by omega, rfl, by simp, rfl⟩
theorem DgAt.size {n m : Nat} {out : ByteArray} (h : DgAt n m out) : out.size ≤ 40 := by
  obtain ⟨_, f, acc, _, h2, h3, _⟩ := h
  rw [← bytesOf_length, h2]; omega
theorem DgAt.step {n m : Nat} {out : ByteArray} (h : DgAt n m out) (hm : 16 ≤ m) : DgAt n (m / 16) (sigS.extract (m % 16) (m % 16 + 1) ++ out) := by
  obtain ⟨h0, f, acc, h1, h2, h3, h4⟩ := h
  have hd : m % 16 < 16 := Nat.mod_lt _ (by omega)
  cases f with
  | zero => simp at h1; omega
  | succ f =>
    rw [hx, if_neg (by omega)] at h4
    rw [Nat.pow_succ] at h1
    refine ⟨by omega, f, sgI (m % 16) :: acc, Nat.div_lt_of_lt_mul (by omega), ?_, by rw [List.length_cons]; omega, h4⟩
    rw [bytesOf_append, sig_cut _ hd, h2]; rfl
theorem DgAt.done {n m : Nat} {out : ByteArray} (h : DgAt n m out) (hm : m < 16) : sigS.extract m (m + 1) ++ out = strOfNums (figsL n) := by
  obtain ⟨h0, f, acc, h1, h2, h3, h4⟩ := h
  rw [Nat.div_eq_of_lt hm, hx_zero, Nat.mod_eq_of_lt hm] at h4
  rw [← h4, ← strOf_bytesOf (sigS.extract m (m + 1) ++ out), bytesOf_append, sig_cut m hm, h2]; rfl
set_option maxHeartbeats 4000000 in
set_option maxRecDepth 100000 in
theorem digits_any (n : Nat) (hn : n < 18446744073709551616) (w : World) : Calls Try.prog 101 #[.int .u64 (n : Int), .int .u64 16] w fun e w' => e = .returned (.string (strOfNums (figsL n))) ∧ Below w.heap.size w w' := by
  go_enter Try.func101, Try.ntmps101
  go_wp2
  go_loopg [0, 6] n (fun k v0 v6 wr => ∃ (m : Nat) (out : ByteArray), v0 = .int .u64 (m : Int) ∧ v6 = .string out ∧ Aside0 (m ≤ k) ∧ Aside0 (DgAt n m out) ∧ Aside0 (Below w.heap.size w wr))
  case atStart => exact ⟨n, ⟨#[]⟩, rfl, rfl, ⟨Nat.le_refl _⟩, ⟨DgAt.zero n hn⟩, ⟨Below.refl _ _⟩⟩
  case round =>
    obtain ⟨m, out, rfl, rfl, HK, HD, HB⟩ := hrel
    have hk := HK.out
    have hlow := HD.out.low
    have hsz := HD.out.size
    by_cases hm : 16 ≤ m
    · have hmI : (m : Int) ≥ 16 := by omega
      have hmd : (m : Int) % 16 + 1 ≤ 16 := by omega
      have hmd0 : (0 : Int) ≤ (m : Int) % 16 := by omega
      have HD2 := Aside0.mk (HD.out.step hm)
      have hs1 := sig_size (m % 16) (Nat.mod_lt _ (by omega))
      go_wp2
      go_quiet (fail)
      go_wp2
      go_roundg (gk - 1)
      case measure => omega
      case rel => exact ⟨m / 16, _, congrArg (Value.int .u64) (by omega), rfl, ⟨by omega⟩, HD2, ⟨pw_below_drewN HB.out _⟩⟩
    · have hmI : ¬ (m : Int) ≥ 16 := by omega
      have HD2 := Lib.hid (HD.out.done (by omega))
      have hs1 := sig_size m (by omega)
      go_wp2
      go_ret
      exact ⟨by rw [← HD2.out]; rfl, HB.out⟩
end Go.Proofs.Ytbelgmfhaddhmaa.Pure
namespace Go.Proofs.Ytbelgmfhaddhmaa.Q
open Go.RowKit Go.Proofs.YtbelgmfhaddhmaaW.PrintWords Go.Proofs.Ytbelgmfhaddhmaa.Pure
def abutmentref02_Digits.f (a0 a1 : Int) : Option ByteArray := if 0 ≤ a0 ∧ a0 < 18446744073709551616 ∧ a1 = 16 then some (strOfNums (figsL a0.toNat)) else none
theorem abutmentref02_Digits.calls (a0 a1 : Int) (r : ByteArray) (w : World) (h : abutmentref02_Digits.f a0 a1 = some r) : Calls Try.prog 101 #[.int .u64 a0, .int .u64 a1] w fun e w' => e = .returned (.string r) ∧ Below w.heap.size w w' := by
  unfold abutmentref02_Digits.f at h
  split at h
  · rename_i hs
    obtain ⟨h0, h1, rfl⟩ := hs
    obtain rfl := Option.some.inj h
    have h2 := digits_any a0.toNat (by omega) w
    rw [Int.toNat_of_nonneg h0] at h2
    exact h2
  · cases h
end Go.Proofs.Ytbelgmfhaddhmaa.Q
