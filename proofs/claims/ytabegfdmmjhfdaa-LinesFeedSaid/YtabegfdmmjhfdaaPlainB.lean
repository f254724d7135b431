/- Plain facts on lines: octet by octet, and piece by piece. -/
import Derived.Test.YtabegfdmmjhfdaaPlain
import Derived.Laws.BytesArg
namespace Go.Proofs.Ytabegfdmmjhfdaa.Plain

def St.taken (st : St) : St := { st with line := [], whole := false }
/-- All lines of some octets, one octet behind the other. -/
def run : List Int → List ByteArray × St → List ByteArray × St
  | [], x => x
  | c :: cs, (out, st) => if st.e ≠ 0 then (out, st) else
      if (see st c).2 ≠ 0 then (out, { (see st c).1 with e := (see st c).2 })
      else if (see st c).1.whole = true then run cs (out ++ [strOfNums (see st c).1.line], (see st c).1.taken)
      else run cs (out, (see st c).1)
theorem run_done (l : List Int) (out : List ByteArray) (st : St) (h : st.e ≠ 0) : run l (out, st) = (out, st) := by
  cases l with
  | nil => rfl
  | cons c cs => rw [run, if_pos h]
theorem see_err {st : St} {c : Int} (h : (see st c).2 ≠ 0) : (see st c).1 = st := by
  revert h
  exact see_all (fun r => r.2 ≠ 0 → r.1 = st) st c (fun _ _ => rfl) (fun _ _ _ => rfl) (fun _ _ _ h => absurd rfl h) (fun _ _ _ h => absurd rfl h) (fun _ _ _ _ h => absurd rfl h)
theorem set_e {st : St} (e : Int) (h : st.e = e) : { st with e := e } = st := by subst h; rfl
/-- How much its octets weigh: two for each line. -/
def wt (st : St) : Int := if st.whole = true then 2 else (if st.turn = true then 1 else 0) + st.line.length
theorem see_wt {st : St} (hw : st.whole = false) (c : Int) (h : (see st c).2 = 0) : wt (see st c).1 ≤ wt st + 1 ∧ (see st c).1.spent = st.spent + 1 := by
  revert h
  refine see_all (fun r => r.2 = 0 → wt r.1 ≤ wt st + 1 ∧ r.1.spent = st.spent + 1) st c (fun _ h => by simp at h) (fun _ _ h => by simp at h) ?_ ?_ ?_
  · intro _ ht _ _; simp [wt, St.step, hw, ht] <;> omega
  · intro _ ht _ _; simp [wt, St.step, hw, ht] <;> omega
  · intro _ ht _ _ _; simp [wt, St.step, hw, ht] <;> omega
theorem see_whole {st : St} (hw : st.whole = false) (c : Int) (h : (see st c).1.whole = true) : (see st c).1.turn = false := by
  revert h
  exact see_all (fun r => r.1.whole = true → r.1.turn = false) st c (fun _ h => absurd (hw.symm.trans h) (by simp)) (fun _ _ h => absurd (hw.symm.trans h) (by simp)) (fun _ _ _ h => absurd (hw.symm.trans h) (by simp)) (fun _ _ _ _ => rfl) (fun _ _ _ _ h => absurd (hw.symm.trans h) (by simp))
/-- What Feed does, all in one. -/
structure Fed (st : St) (l : List Int) (n : Nat) (st1 : St) : Prop where
  le : n ≤ l.length
  spent : st1.spent = st.spent + n
  ok : Ok st1
  wt : wt st1 ≤ wt st + n
  turn : st1.whole = true → st1.turn = false
  whole : st1.whole = true → st1.e = 0 ∧ 0 < n ∧ (∀ rest out, run (l ++ rest) (out, st) = run (l.drop n ++ rest) (out ++ [strOfNums st1.line], st1.taken))
  bad : st1.whole = false → st1.e ≠ 0 → (∀ rest out, run (l ++ rest) (out, st) = (out, st1))
  good : st1.whole = false → st1.e = 0 → n = l.length ∧ (∀ rest out, run (l ++ rest) (out, st) = run rest (out, st1))
theorem feed_is (l : List Int) : ∀ (st : St), Ok st → st.whole = false → st.e = 0 → Fed st l (feed st l).1 (feed st l).2 := by
  induction l with
  | nil => intro st ok hw he; exact ⟨Nat.le_refl _, by simp [feed], ok, by simp [feed], fun h => absurd (hw.symm.trans h) (by simp), fun h => absurd (hw.symm.trans h) (by simp), fun _ h => absurd he h, fun _ _ => ⟨rfl, fun _ _ => rfl⟩⟩
  | cons c cs ih =>
    intro st ok hw he
    by_cases hr : (see st c).2 = 0
    · have h1 : feed st (c :: cs) = ((feed (see st c).1 cs).1 + 1, (feed (see st c).1 cs).2) := by
        rw [feed, if_neg (by simp [hw, he]), if_pos hr, set_e 0 (by rw [see_e, he])]
      have hx := see_wt hw c hr
      have hstep : ∀ rest out, run (c :: cs ++ rest) (out, st) = if (see st c).1.whole = true then run (cs ++ rest) (out ++ [strOfNums (see st c).1.line], (see st c).1.taken) else run (cs ++ rest) (out, (see st c).1) := by
        intro rest out
        rw [List.cons_append, run, if_neg (by simp [he]), if_neg (by simp [hr])]
      by_cases hw1 : (see st c).1.whole = true
      · have h2 : feed (see st c).1 cs = (0, (see st c).1) := by
          cases cs with
          | nil => rfl
          | cons d ds => rw [feed, if_pos (.inl hw1)]
        rw [h1, h2]
        refine ⟨by simp, by rw [hx.2]; simp, ok.see c, by simpa using hx.1, fun _ => see_whole hw c hw1, fun _ => ⟨by rw [see_e, he], by simp, fun rest out => by rw [hstep, if_pos hw1]; rfl⟩, fun h => absurd (h.symm.trans hw1) (by simp), fun h => absurd (h.symm.trans hw1) (by simp)⟩
      · have hw0 : (see st c).1.whole = false := by simpa using hw1
        have I := ih (see st c).1 (ok.see c) hw0 (by rw [see_e, he])
        rw [h1]
        generalize (feed (see st c).1 cs).1 = n at *
        generalize (feed (see st c).1 cs).2 = st1 at *
        refine ⟨by have := I.le; simp; omega, by have := I.spent; rw [hx.2] at this; rw [this]; simp; omega, I.ok, by have := I.wt; have := hx.1; simp; omega, I.turn, fun h => ⟨(I.whole h).1, by omega, fun rest out => ?_⟩, fun h h2 rest out => ?_, fun h h2 => ⟨by have := (I.good h h2).1; simp; omega, fun rest out => ?_⟩⟩
        · rw [hstep, if_neg hw1, (I.whole h).2.2]; rfl
        · rw [hstep, if_neg hw1, I.bad h h2]
        · rw [hstep, if_neg hw1, (I.good h h2).2]
    · have h1 : feed st (c :: cs) = (0, { (see st c).1 with e := (see st c).2 }) := by
        rw [feed, if_neg (by simp [hw, he]), if_neg hr]
      rw [h1, see_err hr]
      refine ⟨by simp, by simp, ok.err _, by simp [wt], fun h => absurd (hw.symm.trans h) (by simp), fun h => absurd (hw.symm.trans h) (by simp), fun _ _ rest out => ?_, fun _ h2 => absurd h2 hr⟩
      rw [List.cons_append, run, if_neg (by simp [he]), if_pos hr, see_err hr]
theorem Ok.taken {st : St} (h : Ok st) : Ok st.taken := ⟨h.l0, h.l1, h.s0, h.s1, by have := h.s0; simpa [St.taken] using this⟩
theorem run_append (a b : List Int) : ∀ (x : List ByteArray × St), run (a ++ b) x = run b (run a x) := by
  induction a with
  | nil => intro x; rfl
  | cons c cs ih =>
    intro ⟨out, st⟩
    rw [List.cons_append, run, run]
    by_cases h1 : st.e ≠ 0
    · rw [if_pos h1, if_pos h1, run_done _ _ _ h1]
    · rw [if_neg h1, if_neg h1]
      by_cases h2 : (see st c).2 ≠ 0
      · rw [if_pos h2, if_pos h2, run_done _ _ _ h2]
      · rw [if_neg h2, if_neg h2]
        by_cases h3 : (see st c).1.whole = true
        · rw [if_pos h3, if_pos h3, ih]
        · rw [if_neg h3, if_neg h3, ih]
end Go.Proofs.Ytabegfdmmjhfdaa.Plain
