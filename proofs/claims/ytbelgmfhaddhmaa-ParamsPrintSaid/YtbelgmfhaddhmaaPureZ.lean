/- What the program's Print comes to; few. -/
import Derived.Test.YtbelgmfhaddhmaaV3
import Derived.Test.YtbelgmfhaddhmaaPureY
import Derived.Test.YtbelgmfhaddhmaaExtI
namespace Go.Proofs.Ytbelgmfhaddhmaa.Pure
open Go.RowKit Go.Proofs.Ytbelgmfhaddhmaa.Q Go.Proofs.Ytbelgmfhaddhmaa.R Go.Proofs.Ytbelgmfhaddhmaa.V Go.Proofs.YtbelgmfhaddhmaaW.PrintWords Go.Proofs.YtbelgmfhaddhmaaW.PrintLast Go.Proofs.YtbelgmfhaddhmaaW.PrintMore
set_option linter.unusedVariables false

/-- A parameter's text. -/
def prOne (p : S70) : ByteArray := if p.f1.size = 0 then (⟨#[59]⟩ : ByteArray) ++ p.f0 else ((⟨#[59]⟩ : ByteArray) ++ p.f0) ++ ((⟨#[61]⟩ : ByteArray) ++ qtS p.f1)
/-- May it be printed? -/
def prOk (p : S70) : Bool := tokenI p.f0 && (decide (p.f1.size = 0) || qtOk p.f1)
def prOut : ByteArray → List S70 → ByteArray
  | out, [] => out
  | out, p :: l => prOut (out ++ prOne p) l
/-- What Print tells. -/
def printV (name : ByteArray) (l : List S70) : ByteArray × Bool := if (tokenI name && l.all prOk) = true then (prOut name l, true) else (⟨#[]⟩, false)
theorem qtS_size (s : ByteArray) : (qtS s).size ≤ 2 * s.size + 2 := by
  unfold qtS
  split
  · omega
  · split
    · exact (qtV_size s).2
    · exact Nat.zero_le _
theorem semi_size (s : ByteArray) : ((⟨#[59]⟩ : ByteArray) ++ s).size = 1 + s.size := by rw [ByteArray.size_append]; rfl
theorem eqs_size (s : ByteArray) : ((⟨#[61]⟩ : ByteArray) ++ s).size = 1 + s.size := by rw [ByteArray.size_append]; rfl
theorem prOne_size (p : S70) (h : p.f0.size ≤ 1000 ∧ p.f1.size ≤ 1000) : (prOne p).size ≤ 4000 := by
  have h1 := qtS_size p.f1
  unfold prOne
  split
  · rw [semi_size]; omega
  · rw [ByteArray.size_append, semi_size, eqs_size]; omega
/-- Parameters that aren't long. -/
def Mid (l : List S70) : Prop := l.length ≤ 1000 ∧ ∀ p ∈ l, p.f0.size ≤ 1000 ∧ p.f1.size ≤ 1000
theorem prOut_size : ∀ (l : List S70) (out : ByteArray), (∀ p ∈ l, p.f0.size ≤ 1000 ∧ p.f1.size ≤ 1000) → (prOut out l).size ≤ out.size + 4000 * l.length := by
  intro l
  induction l with
  | nil => intro out _; show out.size ≤ _; omega
  | cons p l ih =>
    intro out h
    have h1 := prOne_size p (h p (List.mem_cons_self ..))
    have h2 := ih (out ++ prOne p) (fun q hq => h q (List.mem_cons_of_mem _ hq))
    rw [ByteArray.size_append] at h2
    show (prOut (out ++ prOne p) l).size ≤ _
    rw [List.length_cons]
    omega
theorem rd_at (l : List S70) (i : Nat) (h : i < l.length) : rd_T70 l (i : Int) = l[i] := by
  simp [rd_T70, List.getD_eq_getElem?_getD, List.getElem?_eq_getElem h]
theorem assoc_a (x a b : ByteArray) : (x ++ a) ++ b = x ++ (a ++ b) := ByteArray.append_assoc
def prRes (out : ByteArray) (ok : Bool) (l : List S70) : ByteArray × Bool := if (ok && l.all prOk) = true then (prOut out l, true) else (⟨#[]⟩, false)
theorem quote_f (s : ByteArray) (h : s.size ≤ 1000) : cursor_Quote.f s = some (qtS s, qtOk s) := by rw [cursor_Quote.f, if_pos (by omega)]
theorem print_l0 (l : List S70) (hl : Mid l) : ∀ n i : Nat, l.length - i = n → i ≤ l.length → ∀ out : ByteArray, out.size ≤ 2000 + 4000 * i → Ev (fun k => params_Print.l0 k l out (l.length : Int) (i : Int)) (prRes out true (l.drop i)) := by
  intro n
  induction n with
  | zero =>
    intro i hn hi out ho
    rw [List.drop_eq_nil_of_le (by omega)]
    refine Ev.step (f := fun _ => some (out, true)) (fun k => ?_) (Ev.now _)
    simp only [params_Print.l0]; rw [if_neg (by omega)]
  | succ n ih =>
    intro i hn hi out ho
    have hi' : i < l.length := by omega
    have hl1 := hl.1
    obtain ⟨p, hp⟩ : ∃ p, p = l[i] := ⟨_, rfl⟩
    have hrd : rd_T70 l (i : Int) = p := by rw [rd_at l i hi', hp]
    have hb := hl.2 p (by rw [hp]; exact List.getElem_mem hi')
    have hd : l.drop i = p :: l.drop (i + 1) := by rw [hp]; exact List.drop_eq_getElem_cons hi'
    have hq := qtS_size p.f1
    have h1 := prOne_size p hb
    have e1 : wrap64 ((i : Int) + 1) = ((i + 1 : Nat) : Int) := by rw [wI _ (by omega) (by omega)]; omega
    have hs1 := semi_size p.f0
    have hs2 := eqs_size (qtS p.f1)
    rw [hd]
    cases ht : tokenI p.f0 with
    | false =>
      have hr : prRes out true (p :: l.drop (i + 1)) = (⟨#[]⟩, false) := by simp [prRes, prOk, ht]
      rw [hr]
      refine Ev.step (f := fun _ => some (⟨#[]⟩, false)) (fun k => ?_) (Ev.now _)
      simp only [params_Print.l0, hrd]
      rw [if_pos (by omega), if_pos (by omega), if_pos (by omega)]
      simp only [octet_Token.f, Option.bind_some, ht]
      rw [if_neg (by simp)]
    | true =>
      by_cases h0 : p.f1.size = 0
      · have hr : prRes out true (p :: l.drop (i + 1)) = prRes (out ++ prOne p) true (l.drop (i + 1)) := by simp [prRes, prOk, ht, h0, prOut]
        have ho1 : prOne p = (⟨#[59]⟩ : ByteArray) ++ p.f0 := by rw [prOne, if_pos h0]
        rw [hr]
        refine Ev.step (f := fun k => params_Print.l0 k l (out ++ prOne p) (l.length : Int) ((i + 1 : Nat) : Int)) (fun k => ?_) (ih (i + 1) (by omega) (by omega) _ (by rw [ByteArray.size_append]; omega))
        simp only [params_Print.l0, hrd]
        rw [if_pos (by omega), if_pos (by omega), if_pos (by omega)]
        simp only [octet_Token.f, Option.bind_some, ht]
        rw [if_pos trivial, if_pos (by omega), if_pos (by omega), if_pos ((nil_iff _).2 h0), e1, ho1]
      · cases hk : qtOk p.f1 with
        | false =>
          have hr : prRes out true (p :: l.drop (i + 1)) = (⟨#[]⟩, false) := by simp [prRes, prOk, ht, h0, hk]
          rw [hr]
          refine Ev.step (f := fun _ => some (⟨#[]⟩, false)) (fun k => ?_) (Ev.now _)
          simp only [params_Print.l0, hrd]
          rw [if_pos (by omega), if_pos (by omega), if_pos (by omega)]
          simp only [octet_Token.f, Option.bind_some, ht]
          rw [if_pos trivial, if_pos (by omega), if_pos (by omega), if_neg (fun h => h0 ((nil_iff _).1 h)), quote_f _ hb.2]
          simp only [Option.bind_some, hk]
          rw [if_neg (by simp)]
        | true =>
          have hr : prRes out true (p :: l.drop (i + 1)) = prRes (out ++ prOne p) true (l.drop (i + 1)) := by simp [prRes, prOk, ht, h0, hk, prOut]
          have ho1 : prOne p = ((⟨#[59]⟩ : ByteArray) ++ p.f0) ++ ((⟨#[61]⟩ : ByteArray) ++ qtS p.f1) := by rw [prOne, if_neg h0]
          rw [hr]
          refine Ev.step (f := fun k => params_Print.l0 k l (out ++ prOne p) (l.length : Int) ((i + 1 : Nat) : Int)) (fun k => ?_) (ih (i + 1) (by omega) (by omega) _ (by rw [ByteArray.size_append]; omega))
          simp only [params_Print.l0, hrd]
          rw [if_pos (by omega), if_pos (by omega), if_pos (by omega)]
          simp only [octet_Token.f, Option.bind_some, ht]
          rw [if_pos trivial, if_pos (by omega), if_pos (by omega), if_neg (fun h => h0 ((nil_iff _).1 h)), quote_f _ hb.2]
          simp only [Option.bind_some, hk]
          rw [if_pos trivial, if_pos (by omega), if_pos (by rw [ByteArray.size_append]; omega), e1, ho1, assoc_a]
theorem print_ev (name : ByteArray) (l : List S70) (hn : name.size ≤ 1000) (hl : Mid l) : Ev (fun k => params_Print.f k name l) (printV name l) := by
  unfold params_Print.f printV
  simp only [octet_Token.f, Option.bind_some]
  cases ht : tokenI name with
  | false => exact ev_neg (by simp) (Ev.now _)
  | true =>
    have := print_l0 l hl _ 0 rfl (Nat.zero_le _) name (by omega)
    rw [List.drop_zero] at this
    exact ev_pos rfl this
def shortB (p : S70) : Bool := decide (p.f0.size ≤ 60) && decide (p.f1.size ≤ 60)
def fewB (l : List S70) : Bool := decide (l.length ≤ 20) && l.all shortB
theorem few_l0 (l : List S70) (hl : l.length ≤ 20) : ∀ n i : Nat, l.length - i = n → i ≤ l.length → Ev (fun k => abutmentlaw08_few.l0 k l (l.length : Int) (i : Int)) ((l.drop i).all shortB) := by
  intro n
  induction n with
  | zero =>
    intro i hn hi
    rw [List.drop_eq_nil_of_le (by omega)]
    refine Ev.step (f := fun _ => some true) (fun k => ?_) (Ev.now _)
    simp only [abutmentlaw08_few.l0]; rw [if_neg (by omega)]
  | succ n ih =>
    intro i hn hi
    have hi' : i < l.length := by omega
    obtain ⟨p, hp⟩ : ∃ p, p = l[i] := ⟨_, rfl⟩
    have hrd : rd_T70 l (i : Int) = p := by rw [rd_at l i hi', hp]
    have hd : l.drop i = p :: l.drop (i + 1) := by rw [hp]; exact List.drop_eq_getElem_cons hi'
    have e1 : wrap64 ((i : Int) + 1) = ((i + 1 : Nat) : Int) := by rw [wI _ (by omega) (by omega)]; omega
    rw [hd, List.all_cons]
    by_cases c0 : p.f0.size ≤ 60
    · by_cases c1 : p.f1.size ≤ 60
      · have : shortB p = true := by simp [shortB, c0, c1]
        rw [this, Bool.true_and]
        refine Ev.step (f := fun k => abutmentlaw08_few.l0 k l (l.length : Int) ((i + 1 : Nat) : Int)) (fun k => ?_) (ih (i + 1) (by omega) (by omega))
        simp only [abutmentlaw08_few.l0, hrd]
        rw [if_pos (by omega), if_pos (by omega), if_pos (by omega), if_neg (by omega), if_neg (by omega), e1]
      · have : shortB p = false := by simp [shortB, c1]
        rw [this, Bool.false_and]
        refine Ev.step (f := fun _ => some false) (fun k => ?_) (Ev.now _)
        simp only [abutmentlaw08_few.l0, hrd]
        rw [if_pos (by omega), if_pos (by omega), if_pos (by omega), if_neg (by omega), if_pos (by omega)]
    · have : shortB p = false := by simp [shortB, c0]
      rw [this, Bool.false_and]
      refine Ev.step (f := fun _ => some false) (fun k => ?_) (Ev.now _)
      simp only [abutmentlaw08_few.l0, hrd]
      rw [if_pos (by omega), if_pos (by omega), if_pos (by omega), if_pos (by omega)]
theorem few_ev (l : List S70) : Ev (fun k => abutmentlaw08_few.f k l) (fewB l) := by
  unfold abutmentlaw08_few.f fewB
  by_cases h : l.length ≤ 20
  · rw [decide_eq_true h, Bool.true_and]
    have := few_l0 l h _ 0 rfl (Nat.zero_le _)
    rw [List.drop_zero] at this
    exact ev_neg (by omega) this
  · rw [decide_eq_false h, Bool.false_and]
    exact ev_pos (by omega) (Ev.now _)
theorem few_mid {l : List S70} (h : fewB l = true) : Mid l := by
  unfold fewB at h
  rw [Bool.and_eq_true, decide_eq_true_eq, List.all_eq_true] at h
  refine ⟨by omega, fun p hp => ?_⟩
  have := h.2 p hp
  simp only [shortB, Bool.and_eq_true, decide_eq_true_eq] at this
  omega
theorem mn_60 (n : Nat) : 0 ≤ mn (n : Int) 60 ∧ mn (n : Int) 60 ≤ (n : Int) ∧ mn (n : Int) 60 ≤ 60 := by unfold mn; split <;> omega
theorem mn_1000 (n : Nat) : 0 ≤ mn (n : Int) 1000 ∧ mn (n : Int) 1000 ≤ (n : Int) ∧ mn (n : Int) 1000 ≤ 1000 := by unfold mn; split <;> omega
end Go.Proofs.Ytbelgmfhaddhmaa.Pure
