/- What layer 8's reference tells of one parameter. -/
import Derived.Test.YtbelgmfhaddhmaaV0
import Derived.Test.YtbelgmfhaddhmaaPureR
import Derived.Test.YtbelgmfhaddhmaaPureB
import Derived.Test.YtbelgmfhaddhmaaExtP
namespace Go.Proofs.Ytbelgmfhaddhmaa.Pure
open Go.RowKit Go.Proofs.Ytbelgmfhaddhmaa.Q Go.Proofs.Ytbelgmfhaddhmaa.R Go.Proofs.Ytbelgmfhaddhmaa.V Go.Proofs.YtbelgmfhaddhmaaW.PrintWords Go.Proofs.YtbelgmfhaddhmaaW.PrintLast Go.Proofs.YtbelgmfhaddhmaaW.PrintMore
set_option linter.unusedVariables false

theorem ev_pos {α : Type} {c : Prop} [Decidable c] {a b : Nat → Option α} {r : α} (h : c) (k : Ev a r) : Ev (fun n => if c then a n else b n) r := Ev.congr (fun n => if_pos h) k
theorem ev_neg {α : Type} {c : Prop} [Decidable c] {a b : Nat → Option α} {r : α} (h : ¬ c) (k : Ev b r) : Ev (fun n => if c then a n else b n) r := Ev.congr (fun n => if_neg h) k
theorem nil_iff (s : ByteArray) : s.toList = ([] : List UInt8) ↔ s.size = 0 := by
  constructor
  · intro h
    have e : s.toList.isEmpty = true := by rw [h]; rfl
    by_cases h0 : s.size = 0
    · exact h0
    · rw [empty_no h0] at e; cases e
  · intro h
    have e := empty_yes h
    exact List.isEmpty_iff.1 e
theorem ofs_ofs (L : ByteArray) (a b : Nat) (h : a + b ≤ L.size) : ofs (ofs L a) b = ofs L (a + b) := by
  apply str_ext
  simp only [ofs, bytesOf_cut, ByteArray.size_extract]
  rw [List.drop_take, List.take_take, List.drop_drop]
  congr 1
  omega
theorem bt_ofs (L : ByteArray) (k : Nat) (h : k < L.size) : bt (ofs L k) 0 = bt L (k : Int) := by
  have h1 : 0 < (ofs L k).size := by rw [ofs_size _ _ (by omega)]; omega
  have e1 := bt_nat (ofs L k) 0 h1
  have e2 := bt_nat L k h
  have e3 : bytesOf (ofs L k) = ((bytesOf L).drop k).take (L.size - k) := bytesOf_cut L k L.size
  rw [show ((0 : Nat) : Int) = 0 from rfl] at e1
  rw [e1, e2]
  simp only [e3, List.getElem_take, List.getElem_drop, Nat.add_zero]
def badP : ByteArray × ByteArray × ByteArray × Bool := (⟨#[]⟩, ⟨#[]⟩, ⟨#[]⟩, false)
/-- A value at a text's beginning: the reference's. -/
def valR (N M : ByteArray) : ByteArray × ByteArray × ByteArray × Bool :=
  if spn tcI M = 0 then (N, qs M, ofs M (qn M), decide (0 < qn M)) else (N, upto M (spn tcI M), ofs M (spn tcI M), true)
/-- What Param tells. -/
def paramP (L : ByteArray) : ByteArray × ByteArray × ByteArray × Bool :=
  if isAt (aft L) 59 then
    (if spn tcI (aft (ofs (aft L) 1)) = 0 then badP
     else if isAt (aft (ofs (aft (ofs (aft L) 1)) (spn tcI (aft (ofs (aft L) 1))))) 61 then
       valR (lowS (upto (aft (ofs (aft L) 1)) (spn tcI (aft (ofs (aft L) 1))))) (aft (ofs (aft (ofs (aft (ofs (aft L) 1)) (spn tcI (aft (ofs (aft L) 1))))) 1))
     else (lowS (upto (aft (ofs (aft L) 1)) (spn tcI (aft (ofs (aft L) 1)))), ⟨#[]⟩, ofs (aft (ofs (aft L) 1)) (spn tcI (aft (ofs (aft L) 1))), true))
  else badP
theorem qt_pos : ∀ (m : Nat) (cs : List Int), cs.length = m → ∀ (out : List Int) (n : Nat) (r : List Int × Nat), qt out cs n = some r → n < r.2 ∧ r.2 ≤ n + cs.length := by
  intro m
  induction m using Nat.strongRecOn with
  | _ m ih =>
    intro cs hn out n r h
    match cs, hn, h with
    | [], _, h => cases h
    | b :: cs, hn, h =>
      rw [List.length_cons] at hn
      rw [qt_cons] at h
      by_cases h1 : b = 34
      · rw [if_pos h1] at h
        obtain rfl := Option.some.inj h
        rw [List.length_cons]
        exact ⟨Nat.lt_succ_self n, by show n + 1 ≤ _; omega⟩
      · rw [if_neg h1] at h
        by_cases h2 : b = 92
        · rw [if_pos h2] at h
          match cs, hn, h with
          | [], _, h => cases h
          | d :: cs, hn, h =>
            rw [List.length_cons] at hn
            simp only at h
            by_cases h3 : vaI d = true
            · rw [if_pos h3] at h
              have := ih cs.length (by omega) cs rfl _ _ _ h
              rw [List.length_cons, List.length_cons]
              omega
            · rw [if_neg h3] at h; cases h
        · rw [if_neg h2] at h
          by_cases h3 : vaI b = true
          · rw [if_pos h3] at h
            have := ih cs.length (by omega) cs rfl _ _ _ h
            rw [List.length_cons]
            omega
          · rw [if_neg h3] at h; cases h
theorem quoted_in (M : ByteArray) (r : List Int × Nat) (h : Q.quoted M = some r) : 0 < r.2 ∧ r.2 ≤ M.size := by
  have hl := bytesOf_length M
  unfold Q.quoted at h
  cases hb : bytesOf M with
  | nil => rw [hb] at h; cases h
  | cons b cs =>
    rw [hb] at h hl
    rw [List.length_cons] at hl
    simp only at h
    by_cases h1 : b = 34
    · rw [if_pos h1] at h
      have := qt_pos _ cs rfl _ _ _ h
      omega
    · rw [if_neg h1] at h; cases h
theorem qn_pos (M : ByteArray) : decide (0 < qn M) = (Q.quoted M).isSome := by
  cases h : Q.quoted M with
  | none => rw [qn, h]; rfl
  | some r =>
    have := (quoted_in M r h).1
    rw [qn, h]
    simpa using this
theorem qn_le2 (M : ByteArray) : qn M ≤ M.size := by
  cases h : Q.quoted M with
  | none => rw [qn, h]; exact Nat.zero_le _
  | some r => rw [qn, h]; exact (quoted_in M r h).2
theorem lowS_is (s : ByteArray) : oneP.lowS' s = lowS s := rfl
theorem paramP_one (L : ByteArray) : (paramP L).2.2.2 = !(oneP L).bad ∧ ((oneP L).bad = false → paramP L = ((oneP L).name, (oneP L).value, (oneP L).left, true)) := by
  unfold paramP oneP
  by_cases c1 : isAt (aft L) 59
  · simp only [if_pos c1, decide_eq_true c1, lowS_is]
    obtain ⟨M, hM⟩ : ∃ M, M = aft (ofs (aft L) 1) := ⟨_, rfl⟩
    simp only [← hM]
    by_cases c2 : spn tcI M = 0
    · rw [if_pos c2]
      simp [badP, c2]
    · rw [if_neg c2]
      obtain ⟨L4, hL4⟩ : ∃ L4, L4 = ofs M (spn tcI M) := ⟨_, rfl⟩
      rw [← hL4]
      unfold valP
      by_cases c3 : isAt (aft L4) 61
      · rw [if_pos c3, if_pos c3]
        obtain ⟨R, hR⟩ : ∃ R, R = aft (ofs (aft L4) 1) := ⟨_, rfl⟩
        rw [← hR]
        unfold valR
        by_cases c4 : spn tcI R = 0
        · rw [if_pos c4, if_pos c4, qn_pos]
          cases (Q.quoted R).isSome <;> simp [c2]
        · rw [if_neg c4, if_neg c4]
          simp [c2]
      · rw [if_neg c3, if_neg c3]
        simp [c2]
  · simp only [if_neg c1, decide_eq_false c1]
    simp [badP]
theorem aft_is (L : ByteArray) : L.extract (spn blI L) L.size = aft L := rfl
end Go.Proofs.Ytbelgmfhaddhmaa.Pure
