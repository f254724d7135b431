/- Plain facts on lines: no program in sight. -/
namespace Go.Proofs.Ytabegfdmmjhfdaa.Plain

/-- What a Lines holds. -/
structure St where
  left : Int
  spent : Int
  line : List Int
  within : Bool
  turn : Bool
  whole : Bool
  e : Int

def St.step (st : St) : St := { st with left := st.left - 1, spent := st.spent + 1 }
/-- It sees an octet: what it holds behind it, and what is wrong. -/
def see (st : St) (c : Int) : St × Int :=
  if st.left = 0 then (st, 4)
  else if st.turn ≠ (c == 10) then (st, 8)
  else if c = 13 then ({ st.step with turn := true, within := true }, 0)
  else if c = 10 then ({ st.step with turn := false, whole := true, within := false }, 0)
  else ({ st.step with line := st.line ++ [c], within := true }, 0)
/-- It is fed some octets: how many it uses, and what it holds then. -/
def feed (st : St) : List Int → Nat × St
  | [] => (0, st)
  | c :: cs => if st.whole = true ∨ st.e ≠ 0 then (0, st) else
      if (see st c).2 = 0 then ((feed { (see st c).1 with e := 0 } cs).1 + 1, (feed { (see st c).1 with e := 0 } cs).2)
      else (0, { (see st c).1 with e := (see st c).2 })
/-- Its line is taken. -/
def take (st : St) : List Int × St := if st.whole = true then (st.line, { st with line := [], whole := false }) else ([], st)
/-- The sizes go together. -/
structure Ok (st : St) : Prop where
  l0 : 0 ≤ st.left
  l1 : st.left ≤ 65536
  s0 : 0 ≤ st.spent
  s1 : st.left + st.spent ≤ 65536
  n : (st.line.length : Int) ≤ st.spent
theorem Ok.see {st : St} (h : Ok st) (c : Int) : Ok (see st c).1 := by
  obtain ⟨l0, l1, s0, s1, n⟩ := h
  unfold Plain.see
  by_cases c1 : st.left = 0
  · rw [if_pos c1]; exact ⟨l0, l1, s0, s1, n⟩
  · rw [if_neg c1]
    by_cases c2 : st.turn ≠ (c == 10)
    · rw [if_pos c2]; exact ⟨l0, l1, s0, s1, n⟩
    · rw [if_neg c2]
      by_cases c3 : c = 13
      · rw [if_pos c3]; exact ⟨by simp [St.step]; omega, by simp [St.step]; omega, by simp [St.step]; omega, by simp [St.step]; omega, by simp [St.step]; omega⟩
      · rw [if_neg c3]
        by_cases c4 : c = 10
        · rw [if_pos c4]; exact ⟨by simp [St.step]; omega, by simp [St.step]; omega, by simp [St.step]; omega, by simp [St.step]; omega, by simp [St.step]; omega⟩
        · rw [if_neg c4]; exact ⟨by simp [St.step]; omega, by simp [St.step]; omega, by simp [St.step]; omega, by simp [St.step]; omega, by simp [St.step]; omega⟩
theorem Ok.err {st : St} (h : Ok st) (e : Int) : Ok { st with e := e } := ⟨h.l0, h.l1, h.s0, h.s1, h.n⟩
theorem Ok.take {st : St} (h : Ok st) : Ok (take st).2 := by
  unfold Plain.take
  split
  · exact ⟨h.l0, h.l1, h.s0, h.s1, by have := h.s0; simpa using this⟩
  · exact h
theorem see_left {st : St} (h : st.left = 0) (c : Int) : see st c = (st, 4) := if_pos h
theorem see_bad {st : St} {c : Int} (h : ¬ st.left = 0) (h2 : st.turn ≠ (c == 10)) : see st c = (st, 8) := by rw [see, if_neg h, if_pos h2]
theorem see_cr {st : St} (h : ¬ st.left = 0) (h2 : st.turn = false) : see st 13 = ({ st.step with turn := true, within := true }, 0) := by
  rw [see, if_neg h, if_neg (by simp [h2]), if_pos rfl]
theorem see_lf {st : St} (h : ¬ st.left = 0) (h2 : st.turn = true) : see st 10 = ({ st.step with turn := false, whole := true, within := false }, 0) := by
  rw [see, if_neg h, if_neg (by simp [h2]), if_neg (by omega), if_pos rfl]
theorem see_oct {st : St} {c : Int} (h : ¬ st.left = 0) (h2 : st.turn = false) (h3 : c ≠ 13) (h4 : c ≠ 10) : see st c = ({ st.step with line := st.line ++ [c], within := true }, 0) := by
  rw [see, if_neg h, if_neg (by simp [h2, h4]), if_neg h3, if_neg h4]
theorem see_all (P : St × Int → Prop) (st : St) (c : Int) (h1 : st.left = 0 → P (st, 4)) (h2 : st.left ≠ 0 → st.turn ≠ (c == 10) → P (st, 8))
    (h3 : st.left ≠ 0 → st.turn = false → c = 13 → P ({ st.step with turn := true, within := true }, 0)) (h4 : st.left ≠ 0 → st.turn = true → c = 10 → P ({ st.step with turn := false, whole := true, within := false }, 0))
    (h5 : st.left ≠ 0 → st.turn = false → c ≠ 13 → c ≠ 10 → P ({ st.step with line := st.line ++ [c], within := true }, 0)) : P (see st c) := by
  by_cases c1 : st.left = 0
  · rw [see_left c1]; exact h1 c1
  · by_cases c2 : st.turn = (c == 10)
    · by_cases c4 : c = 10
      · subst c4
        rw [see_lf c1 c2]; exact h4 c1 c2 rfl
      · have ht : st.turn = false := by rw [c2]; exact beq_eq_false_iff_ne.mpr c4
        by_cases c3 : c = 13
        · subst c3
          rw [see_cr c1 ht]; exact h3 c1 ht rfl
        · rw [see_oct c1 ht c3 c4]; exact h5 c1 ht c3 c4
    · rw [see_bad c1 c2]; exact h2 c1 c2
theorem see_e (st : St) (c : Int) : (see st c).1.e = st.e := see_all (fun r => r.1.e = st.e) st c (fun _ => rfl) (fun _ _ => rfl) (fun _ _ _ => rfl) (fun _ _ _ => rfl) (fun _ _ _ _ => rfl)
theorem see_cases (st : St) (c : Int) : (see st c).2 = 0 ∨ (see st c).2 = 4 ∨ (see st c).2 = 8 :=
  see_all (fun r => r.2 = 0 ∨ r.2 = 4 ∨ r.2 = 8) st c (fun _ => .inr (.inl rfl)) (fun _ _ => .inr (.inr rfl)) (fun _ _ _ => .inl rfl) (fun _ _ _ => .inl rfl) (fun _ _ _ _ => .inl rfl)
end Go.Proofs.Ytabegfdmmjhfdaa.Plain
