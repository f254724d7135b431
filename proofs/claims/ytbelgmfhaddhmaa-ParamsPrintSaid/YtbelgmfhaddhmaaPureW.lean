/- What the reference's Print comes to; the walk of ParamsPrint. -/
import Derived.Test.YtbelgmfhaddhmaaV5
import Derived.Test.YtbelgmfhaddhmaaPureZ
import Derived.Test.YtbelgmfhaddhmaaOpenP
namespace Go.Proofs.Ytbelgmfhaddhmaa.Pure
open Go.RowKit Go.Proofs.Ytbelgmfhaddhmaa.Q Go.Proofs.Ytbelgmfhaddhmaa.R Go.Proofs.Ytbelgmfhaddhmaa.V Go.Proofs.YtbelgmfhaddhmaaW.PrintWords Go.Proofs.YtbelgmfhaddhmaaW.PrintLast Go.Proofs.YtbelgmfhaddhmaaW.PrintMore
set_option linter.unusedVariables false

theorem rprint_l0 (l : List S70) (hl : Mid l) : ∀ n i : Nat, l.length - i = n → i ≤ l.length → ∀ (out : ByteArray) (ok : Bool), out.size ≤ 2000 + 4000 * i → Ev (fun k => abutmentref08_Print.l0 k l out ok (i : Int)) (prRes out ok (l.drop i)) := by
  intro n
  induction n with
  | zero =>
    intro i hn hi out ok ho
    rw [List.drop_eq_nil_of_le (by omega)]
    cases ok with
    | true =>
      refine Ev.step (f := fun _ => some (out, true)) (fun k => ?_) (Ev.now _)
      simp only [abutmentref08_Print.l0]; rw [if_neg (by omega), if_pos trivial]
    | false =>
      refine Ev.step (f := fun _ => some (⟨#[]⟩, false)) (fun k => ?_) (Ev.now _)
      simp only [abutmentref08_Print.l0]; rw [if_neg (by omega), if_neg (by simp)]
  | succ n ih =>
    intro i hn hi out ok ho
    have hi' : i < l.length := by omega
    have hl1 := hl.1
    obtain ⟨p, hp⟩ : ∃ p, p = l[i] := ⟨_, rfl⟩
    have hrd : rd_T70 l (i : Int) = p := by rw [rd_at l i hi', hp]
    have hb := hl.2 p (by rw [hp]; exact List.getElem_mem hi')
    have hd : l.drop i = p :: l.drop (i + 1) := by rw [hp]; exact List.drop_eq_getElem_cons hi'
    have hq := qtS_size p.f1
    have h1 := prOne_size p hb
    have e1 : wrap64 ((i : Int) + 1) = ((i + 1 : Nat) : Int) := by rw [wI _ (by omega) (by omega)]; omega
    have hs1 := semi_size p.f0
    have hs2 := eqs_size (qtS p.f1)
    have hz1 : (out ++ (⟨#[59]⟩ : ByteArray)).size = out.size + 1 := by rw [ByteArray.size_append]; rfl
    have hz2 : ((out ++ (⟨#[59]⟩ : ByteArray)) ++ p.f0).size = out.size + 1 + p.f0.size := by rw [ByteArray.size_append, hz1]
    have hz3 : (((out ++ (⟨#[59]⟩ : ByteArray)) ++ p.f0) ++ (⟨#[61]⟩ : ByteArray)).size = out.size + 1 + p.f0.size + 1 := by rw [ByteArray.size_append, hz2]; rfl
    have hr : prRes out ok (p :: l.drop (i + 1)) = prRes (out ++ prOne p) (ok && prOk p) (l.drop (i + 1)) := by simp [prRes, prOut, Bool.and_assoc]
    rw [hd, hr]
    have hih := ih (i + 1) (by omega) (by omega) (out ++ prOne p) (ok && prOk p) (by rw [ByteArray.size_append]; omega)
    have HT := token_ev p.f0 (by omega)
    have HQ := rquote_ev p.f1 (by omega)
    by_cases h0 : p.f1.size = 0
    · have ho1 : out ++ prOne p = (out ++ (⟨#[59]⟩ : ByteArray)) ++ p.f0 := by rw [prOne, if_pos h0, assoc_a]
      have hk : prOk p = tokenI p.f0 := by simp [prOk, h0]
      rw [ho1, hk] at hih ⊢
      cases ok with
      | true =>
        rw [Bool.true_and] at hih ⊢
        refine Ev.step (f := fun k => (abutmentref01_Token.f k p.f0).bind fun t => abutmentref08_Print.l0 k l ((out ++ (⟨#[59]⟩ : ByteArray)) ++ p.f0) t ((i + 1 : Nat) : Int)) (fun k => ?_) (Ev.bind HT hih)
        simp only [abutmentref08_Print.l0, hrd]
        rw [if_pos (by omega), if_pos trivial, if_pos (by omega)]
        congr 1
        funext t
        rw [if_pos (by omega), if_pos (by omega), if_pos ((nil_iff _).2 h0), e1]
      | false =>
        rw [Bool.false_and] at hih ⊢
        refine Ev.step (f := fun k => abutmentref08_Print.l0 k l ((out ++ (⟨#[59]⟩ : ByteArray)) ++ p.f0) false ((i + 1 : Nat) : Int)) (fun k => ?_) hih
        simp only [abutmentref08_Print.l0, hrd]
        rw [if_pos (by omega), if_neg (by simp), if_pos (by omega), if_pos (by omega), if_pos (by omega), if_pos ((nil_iff _).2 h0), e1]
    · have ho1 : out ++ prOne p = ((((out ++ (⟨#[59]⟩ : ByteArray)) ++ p.f0) ++ (⟨#[61]⟩ : ByteArray)) ++ qtS p.f1) := by rw [prOne, if_neg h0]; simp only [assoc_a]
      have hk : prOk p = (tokenI p.f0 && qtOk p.f1) := by simp [prOk, h0]
      rw [ho1, hk] at hih ⊢
      have hn0 : ¬ (p.f1.toList = ([] : List UInt8)) := fun h => h0 ((nil_iff _).1 h)
      cases ok with
      | true =>
        rw [Bool.true_and] at hih ⊢
        refine Ev.step (f := fun k => (abutmentref01_Token.f k p.f0).bind fun t => (abutmentref04_Quote.f k p.f1).bind fun bt119 => (if ((out ++ (⟨#[59]⟩ : ByteArray)) ++ p.f0).size + 1 ≤ 9223372036854775807 then (if (((out ++ (⟨#[59]⟩ : ByteArray)) ++ p.f0) ++ (⟨#[61]⟩ : ByteArray)).size + bt119.1.size ≤ 9223372036854775807 then (if t = true then (abutmentref08_Print.l0 k l ((((out ++ (⟨#[59]⟩ : ByteArray)) ++ p.f0) ++ (⟨#[61]⟩ : ByteArray)) ++ bt119.1) bt119.2 ((i + 1 : Nat) : Int)) else (abutmentref08_Print.l0 k l ((((out ++ (⟨#[59]⟩ : ByteArray)) ++ p.f0) ++ (⟨#[61]⟩ : ByteArray)) ++ bt119.1) false ((i + 1 : Nat) : Int))) else (none)) else (none))) (fun k => ?_) (Ev.bind HT (Ev.bind HQ ?_))
        · simp only [abutmentref08_Print.l0, hrd]
          rw [if_pos (by omega), if_pos trivial, if_pos (by omega)]
          congr 1
          funext t
          rw [if_pos (by omega), if_pos (by omega), if_neg hn0, e1]
        · refine ev_pos (by omega) (ev_pos (by show _ + (qtS p.f1).size ≤ _; omega) ?_)
          cases ht : tokenI p.f0 with
          | true => rw [ht, Bool.true_and] at hih; exact ev_pos rfl hih
          | false => rw [ht, Bool.false_and] at hih; exact ev_neg (by simp) hih
      | false =>
        rw [Bool.false_and] at hih ⊢
        refine Ev.step (f := fun k => (abutmentref04_Quote.f k p.f1).bind fun bt119 => (if ((out ++ (⟨#[59]⟩ : ByteArray)) ++ p.f0).size + 1 ≤ 9223372036854775807 then (if (((out ++ (⟨#[59]⟩ : ByteArray)) ++ p.f0) ++ (⟨#[61]⟩ : ByteArray)).size + bt119.1.size ≤ 9223372036854775807 then (abutmentref08_Print.l0 k l ((((out ++ (⟨#[59]⟩ : ByteArray)) ++ p.f0) ++ (⟨#[61]⟩ : ByteArray)) ++ bt119.1) false ((i + 1 : Nat) : Int)) else (none)) else (none))) (fun k => ?_) (Ev.bind HQ ?_)
        · simp only [abutmentref08_Print.l0, hrd]
          rw [if_pos (by omega), if_neg (by simp), if_pos (by omega), if_pos (by omega), if_pos (by omega), if_neg hn0, e1]
        · exact ev_pos (by omega) (ev_pos (by show _ + (qtS p.f1).size ≤ _; omega) hih)
theorem rprint_ev (name : ByteArray) (l : List S70) (hn : name.size ≤ 1000) (hl : Mid l) : Ev (fun k => abutmentref08_Print.f k name l) (printV name l) := by
  refine Ev.bind (token_ev name (by omega)) ?_
  have := rprint_l0 l hl _ 0 rfl (Nat.zero_le _) name (tokenI name) (by omega)
  rw [List.drop_zero] at this
  exact this
theorem params_print (a0 : ByteArray) (l : List S70) : Ev (fun k => abutmentlaw08_ParamsPrint.f k a0 l) true := by
  have hm := mn_60 a0.size
  obtain ⟨s, hs⟩ : ∃ s, s = a0.extract 0 (mn (a0.size : Int) 60).toNat := ⟨_, rfl⟩
  have hz : s.size ≤ 60 := by rw [hs, ByteArray.size_extract]; omega
  unfold abutmentlaw08_ParamsPrint.f
  rw [← hs]
  refine ev_pos hm.1 (ev_pos hm.2.1 (Ev.bind (few_ev l) ?_))
  cases hf : fewB l with
  | false => exact ev_neg (by simp) (Ev.bind lives8_ev (Ev.now _))
  | true =>
    have hmid := few_mid hf
    refine ev_pos rfl (Ev.bind (print_ev s l (by omega) hmid) (Ev.bind (rprint_ev s l (by omega) hmid) ?_))
    refine ev_pos rfl (ev_pos (by simp) ?_)
    exact Ev.bind lives8_ev (Ev.now _)
theorem print_walk (a0 : ByteArray) (A : Option Addr) (L C : Nat) (l : List S70) (W : World) (hs : a0.size ≤ 140737488351232) (h : Came70 W A L C l) : Calls Try.prog 14 #[.string a0, .slice A L C] W fun e w' => e = .returned (.bool true) ∧ Below W.heap.size W w' := by
  obtain ⟨hl, hc, _, hr⟩ := h
  subst hl
  obtain ⟨k, hk⟩ := (params_print a0 l).rounds
  exact abutmentlaw08_ParamsPrint.calls k a0 A C l true W hr hc hk
end Go.Proofs.Ytbelgmfhaddhmaa.Pure
