/- The plain law of TrailerKeeps, and its walk; what TrailerMerges asks. -/
import Derived.Test.YtbelgmfhaddhmaaT6
import Derived.Test.YtbelgmfhaddhmaaOpenF
namespace Go.Proofs.Ytbelgmfhaddhmaa.Pure
open Go.RowKit Go.Proofs.Ytbelgmfhaddhmaa.Q Go.Proofs.Ytbelgmfhaddhmaa.T Go.Proofs.YtbelgmfhaddhmaaW.PrintWords Go.Proofs.YtbelgmfhaddhmaaW.PrintLast Go.Proofs.YtbelgmfhaddhmaaW.PrintMore
set_option linter.unusedVariables false
theorem evt_pos {α : Type} {c : Prop} [Decidable c] {a b : Nat → Option α} {r : α} (h : c) (k : Ev a r) : Ev (fun n => if c then a n else b n) r := Ev.congr (fun n => if_pos h) k
theorem evt_neg {α : Type} {c : Prop} [Decidable c] {a b : Nat → Option α} {r : α} (h : ¬ c) (k : Ev b r) : Ev (fun n => if c then a n else b n) r := Ev.congr (fun n => if_neg h) k
def refL : List ByteArray := [⟨#[97, 103, 101]⟩, ⟨#[97, 117, 116, 104, 111, 114, 105, 122, 97, 116, 105, 111, 110]⟩, ⟨#[99, 97, 99, 104, 101, 45, 99, 111, 110, 116, 114, 111, 108]⟩, ⟨#[99, 111, 110, 110, 101, 99, 116, 105, 111, 110]⟩, ⟨#[99, 111, 110, 116, 101, 110, 116, 45, 101, 110, 99, 111, 100, 105, 110, 103]⟩, ⟨#[99, 111, 110, 116, 101, 110, 116, 45, 108, 101, 110, 103, 116, 104]⟩, ⟨#[99, 111, 110, 116, 101, 110, 116, 45, 114, 97, 110, 103, 101]⟩, ⟨#[99, 111, 110, 116, 101, 110, 116, 45, 116, 121, 112, 101]⟩, ⟨#[99, 111, 111, 107, 105, 101]⟩, ⟨#[100, 97, 116, 101]⟩, ⟨#[101, 120, 112, 101, 99, 116]⟩, ⟨#[101, 120, 112, 105, 114, 101, 115]⟩, ⟨#[104, 111, 115, 116]⟩, ⟨#[105, 102, 45, 109, 97, 116, 99, 104]⟩, ⟨#[105, 102, 45, 109, 111, 100, 105, 102, 105, 101, 100, 45, 115, 105, 110, 99, 101]⟩, ⟨#[105, 102, 45, 110, 111, 110, 101, 45, 109, 97, 116, 99, 104]⟩, ⟨#[105, 102, 45, 114, 97, 110, 103, 101]⟩, ⟨#[105, 102, 45, 117, 110, 109, 111, 100, 105, 102, 105, 101, 100, 45, 115, 105, 110, 99, 101]⟩, ⟨#[107, 101, 101, 112, 45, 97, 108, 105, 118, 101]⟩, ⟨#[108, 111, 99, 97, 116, 105, 111, 110]⟩, ⟨#[109, 97, 120, 45, 102, 111, 114, 119, 97, 114, 100, 115]⟩, ⟨#[112, 114, 97, 103, 109, 97]⟩, ⟨#[112, 114, 111, 120, 121, 45, 97, 117, 116, 104, 101, 110, 116, 105, 99, 97, 116, 101]⟩, ⟨#[112, 114, 111, 120, 121, 45, 97, 117, 116, 104, 111, 114, 105, 122, 97, 116, 105, 111, 110]⟩, ⟨#[112, 114, 111, 120, 121, 45, 99, 111, 110, 110, 101, 99, 116, 105, 111, 110]⟩, ⟨#[114, 97, 110, 103, 101]⟩, ⟨#[114, 101, 116, 114, 121, 45, 97, 102, 116, 101, 114]⟩, ⟨#[115, 101, 116, 45, 99, 111, 111, 107, 105, 101]⟩, ⟨#[116, 101]⟩, ⟨#[116, 114, 97, 105, 108, 101, 114]⟩, ⟨#[116, 114, 97, 110, 115, 102, 101, 114, 45, 101, 110, 99, 111, 100, 105, 110, 103]⟩, ⟨#[117, 112, 103, 114, 97, 100, 101]⟩, ⟨#[118, 97, 114, 121]⟩, ⟨#[118, 105, 97]⟩, ⟨#[119, 119, 119, 45, 97, 117, 116, 104, 101, 110, 116, 105, 99, 97, 116, 101]⟩]
theorem refL_is : refL = barsL.map lowS := by decide +kernel
theorem low_eq (a b : ByteArray) : ((lowS a).toList == (lowS b).toList) = foldB a b := by
  unfold foldB
  by_cases h : (bytesOf a).map lowI = (bytesOf b).map lowI
  · have : lowS a = lowS b := by rw [lowS, lowS, h]
    rw [this, h]; simp
  · rw [beq_eq_false_iff_ne.mpr h, beq_eq_false_iff_ne]
    intro e
    rw [toList_iff, lowS_bytes, lowS_bytes] at e
    exact h e
theorem fold_sym (a b : ByteArray) : foldB a b = foldB b a := by
  unfold foldB
  exact Bool.beq_comm
theorem rdS_at (l : List ByteArray) (i : Nat) (h : i < l.length) : rdOf ByteArray.empty l (i : Int) = l[i] := by
  simp [rdOf, List.getD_eq_getElem?_getD, List.getElem?_eq_getElem h]
theorem rallowed_l0 (s : ByteArray) (hs : s.size ≤ 100000) : ∀ n i : Nat, refL.length - i = n → i ≤ refL.length → Ev (fun k => abutmentref26_Allowed.l0 k s refL (i : Int)) (!((barsL.drop i).any fun b => foldB b s) && tokenI s) := by
  have hl : refL.length = 35 := rfl
  have hl2 : barsL.length = 35 := rfl
  intro n
  induction n with
  | zero =>
    intro i hn hi
    rw [List.drop_eq_nil_of_le (by omega)]
    refine Ev.step (f := fun k => (abutmentref01_Token.f k s).bind fun t116 => (some t116)) (fun k => ?_) (Ev.bind (token_ev s (by omega)) (Ev.now _))
    simp only [abutmentref26_Allowed.l0]
    rw [if_neg (by omega)]
  | succ n ih =>
    intro i hn hi
    have hi' : i < refL.length := by omega
    have hib : i < barsL.length := by omega
    have q1 : (i : Int) < (refL.length : Int) := by omega
    have q2 : (0 : Int) ≤ (i : Int) := by omega
    have hr : rdOf ByteArray.empty refL (i : Int) = lowS (barsL[i]) := by
      rw [rdS_at refL i hi']
      have : refL[i]? = (barsL.map lowS)[i]? := by rw [← refL_is]
      rw [List.getElem?_eq_getElem hi', List.getElem?_map, List.getElem?_eq_getElem hib] at this
      exact Option.some.inj this
    have hih := ih (i + 1) (by omega) (by omega)
    have hd : barsL.drop i = barsL[i] :: barsL.drop (i + 1) := List.drop_eq_getElem_cons hib
    have p5 : wrap64 ((i : Int) + 1) = ((i + 1 : Nat) : Int) := (wI _ (by omega) (by omega)).trans rfl
    have he := low_eq (barsL[i]) s
    refine Ev.step (f := fun k => (abutmentref01_Lower.f k s).bind fun t115 => (if (lowS (barsL[i])).toList = t115.toList then (some false) else (abutmentref26_Allowed.l0 k s refL ((i + 1 : Nat) : Int)))) (fun k => ?_) (Ev.bind (rlower_ev s (by omega)) ?_)
    · simp only [abutmentref26_Allowed.l0, hr]
      rw [if_pos q1, if_pos q2, p5]
    · rw [hd, List.any_cons]
      cases hf : foldB (barsL[i]) s with
      | true =>
        rw [hf] at he
        refine evt_pos (beq_iff_eq.mp he) ?_
        rw [Bool.true_or]; exact Ev.now _
      | false =>
        rw [hf] at he
        refine evt_neg (beq_eq_false_iff_ne.mp he) ?_
        rw [Bool.false_or]; exact hih
theorem rallowed_ev (s : ByteArray) (hs : s.size ≤ 100000) : Ev (fun k => abutmentref26_Allowed.f k s) (allowedB s) := rallowed_l0 s hs _ 0 rfl (Nat.zero_le _)
theorem rdF_at (l : List S44) (i : Nat) (h : i < l.length) : rd_T44 l (i : Int) = l[i] := by
  simp [rd_T44, List.getD_eq_getElem?_getD, List.getElem?_eq_getElem h]
/-- Few fields, and short. -/
structure FewL (l : List S44) : Prop where
  len : l.length ≤ 40
  sz : ∀ p ∈ l, p.f0.size ≤ 100 ∧ p.f1.size ≤ 300
def shortF (p : S44) : Bool := decide (p.f0.size ≤ 100) && decide (p.f1.size ≤ 300)
def fewF (l : List S44) : Bool := decide (l.length ≤ 40) && l.all shortF
theorem few_of {l : List S44} (h : fewF l = true) : FewL l := by
  unfold fewF at h
  rw [Bool.and_eq_true, decide_eq_true_eq, List.all_eq_true] at h
  refine ⟨h.1, fun p hp => ?_⟩
  have := h.2 p hp
  simp only [shortF, Bool.and_eq_true, decide_eq_true_eq] at this
  exact this
theorem fewF_l0 (l : List S44) (hl : l.length ≤ 40) : ∀ n i : Nat, l.length - i = n → i ≤ l.length → Ev (fun k => abutmentlaw10_Few.l0 k l (l.length : Int) (i : Int)) ((l.drop i).all shortF) := by
  intro n
  induction n with
  | zero =>
    intro i hn hi
    rw [List.drop_eq_nil_of_le (by omega)]
    refine Ev.step (f := fun _ => some true) (fun k => ?_) (Ev.now _)
    simp only [abutmentlaw10_Few.l0]; rw [if_neg (by omega)]
  | succ n ih =>
    intro i hn hi
    have hi' : i < l.length := by omega
    obtain ⟨p, hp⟩ : ∃ p, p = l[i] := ⟨_, rfl⟩
    have hrd : rd_T44 l (i : Int) = p := by rw [rdF_at l i hi', hp]
    have hd : l.drop i = p :: l.drop (i + 1) := by rw [hp]; exact List.drop_eq_getElem_cons hi'
    have e1 : wrap64 ((i : Int) + 1) = ((i + 1 : Nat) : Int) := by rw [wI _ (by omega) (by omega)]; omega
    rw [hd, List.all_cons]
    by_cases c0 : p.f0.size ≤ 100
    · by_cases c1 : p.f1.size ≤ 300
      · have : shortF p = true := by simp [shortF, c0, c1]
        rw [this, Bool.true_and]
        refine Ev.step (f := fun k => abutmentlaw10_Few.l0 k l (l.length : Int) ((i + 1 : Nat) : Int)) (fun k => ?_) (ih (i + 1) (by omega) (by omega))
        simp only [abutmentlaw10_Few.l0, hrd]
        rw [if_pos (by omega), if_pos (by omega), if_pos (by omega), if_neg (by omega), if_neg (by omega), e1]
      · have : shortF p = false := by simp [shortF, c1]
        rw [this, Bool.false_and]
        refine Ev.step (f := fun _ => some false) (fun k => ?_) (Ev.now _)
        simp only [abutmentlaw10_Few.l0, hrd]
        rw [if_pos (by omega), if_pos (by omega), if_pos (by omega), if_neg (by omega), if_pos (by omega)]
    · have : shortF p = false := by simp [shortF, c0]
      rw [this, Bool.false_and]
      refine Ev.step (f := fun _ => some false) (fun k => ?_) (Ev.now _)
      simp only [abutmentlaw10_Few.l0, hrd]
      rw [if_pos (by omega), if_pos (by omega), if_pos (by omega), if_pos (by omega)]
theorem fewF_ev (l : List S44) : Ev (fun k => abutmentlaw10_Few.f k l) (fewF l) := by
  unfold abutmentlaw10_Few.f fewF
  by_cases h : l.length ≤ 40
  · rw [decide_eq_true h, Bool.true_and]
    have := fewF_l0 l h _ 0 rfl (Nat.zero_le _)
    rw [List.drop_zero] at this
    exact evt_neg (by omega) this
  · rw [decide_eq_false h, Bool.false_and]
    exact evt_pos (by omega) (Ev.now _)
theorem sameF_l0 (l : List S44) (hl : l.length ≤ 1000000) : ∀ n i : Nat, l.length - i = n → i ≤ l.length → Ev (fun k => abutmentref09_Same.l0 k l l (i : Int)) true := by
  intro n
  induction n with
  | zero =>
    intro i hn hi
    refine Ev.step (f := fun _ => some true) (fun k => ?_) (Ev.now _)
    simp only [abutmentref09_Same.l0]; rw [if_neg (by omega)]
  | succ n ih =>
    intro i hn hi
    refine Ev.step (f := fun k => abutmentref09_Same.l0 k l l ((i + 1 : Nat) : Int)) (fun k => ?_) (ih (i + 1) (by omega) (by omega))
    simp only [abutmentref09_Same.l0]
    rw [if_pos (by omega), if_pos (by omega), if_pos (by omega), if_neg (by simp), wI _ (by omega) (by omega)]
    rfl
theorem sameF_ev (l : List S44) (hl : l.length ≤ 1000000) : Ev (fun k => abutmentref09_Same.f k l l) true := by
  refine Ev.congr (f := fun k => abutmentref09_Same.l0 k l l ((0 : Nat) : Int)) (fun k => ?_) (sameF_l0 l hl _ 0 rfl (Nat.zero_le _))
  unfold abutmentref09_Same.f
  rw [if_pos rfl]; rfl
theorem eta44 (p : S44) : (⟨p.f0, p.f1⟩ : S44) = p := rfl
theorem rkeep_l0 (l : List S44) (hf : FewL l) : ∀ n i : Nat, l.length - i = n → i ≤ l.length → ∀ acc : List S44, acc.length ≤ i → Ev (fun k => abutmentref26_Keep.l0 k l acc (i : Int)) (acc ++ keepL (l.drop i)) := by
  have hl := hf.len
  intro n
  induction n with
  | zero =>
    intro i hn hi acc ha
    rw [List.drop_eq_nil_of_le (by omega)]
    have e : acc ++ keepL [] = acc := List.append_nil _
    rw [e]
    refine Ev.step (f := fun _ => some acc) (fun k => ?_) (Ev.now _)
    simp only [abutmentref26_Keep.l0]; rw [if_neg (by omega)]
  | succ n ih =>
    intro i hn hi acc ha
    have hi' : i < l.length := by omega
    obtain ⟨p, hp⟩ : ∃ p, p = l[i] := ⟨_, rfl⟩
    have hrd : rd_T44 l (i : Int) = p := by rw [rdF_at l i hi', hp]
    have hsz := hf.sz p (by rw [hp]; exact List.getElem_mem hi')
    have hd : l.drop i = p :: l.drop (i + 1) := by rw [hp]; exact List.drop_eq_getElem_cons hi'
    have q1 : (i : Int) < (l.length : Int) := by omega
    have q2 : (0 : Int) ≤ (i : Int) := by omega
    have q3 : acc.length < 4398046511104 := by omega
    have ih1 := ih (i + 1) (by omega) (by omega) (acc ++ [p]) (by rw [List.length_append, List.length_singleton]; omega)
    have ih2 := ih (i + 1) (by omega) (by omega) acc (by omega)
    have e1 : wrap64 ((i : Int) + 1) = ((i + 1 : Nat) : Int) := (wI _ (by omega) (by omega)).trans rfl
    refine Ev.step (f := fun k => (abutmentref26_Allowed.f k p.f0).bind fun t123 => (if t123 = true then (if acc.length < 4398046511104 then (abutmentref26_Keep.l0 k l (acc ++ [p]) ((i + 1 : Nat) : Int)) else (none)) else (abutmentref26_Keep.l0 k l acc ((i + 1 : Nat) : Int)))) (fun k => ?_) (Ev.bind (rallowed_ev p.f0 (by omega)) ?_)
    · simp only [abutmentref26_Keep.l0, hrd]
      rw [if_pos q1, if_pos q2, e1]
    · rw [hd]
      cases hal : allowedB p.f0 with
      | true =>
        have e : keepL (p :: l.drop (i + 1)) = p :: keepL (l.drop (i + 1)) := by rw [keepL, List.filter_cons, if_pos hal]; rfl
        rw [e]
        rw [List.append_assoc] at ih1
        exact evt_pos rfl (evt_pos q3 ih1)
      | false =>
        have e : keepL (p :: l.drop (i + 1)) = keepL (l.drop (i + 1)) := by rw [keepL, List.filter_cons, if_neg (by rw [hal]; decide)]; rfl
        rw [e]
        exact evt_neg (by decide) ih2
theorem rkeep_ev (l : List S44) (hf : FewL l) : Ev (fun k => abutmentref26_Keep.f k l) (keepL l) := by
  have := rkeep_l0 l hf _ 0 rfl (Nat.zero_le _) [] (Nat.le_refl _)
  rw [List.drop_zero, List.nil_append] at this
  exact this
theorem rall_l0 (l : List S44) (hf : FewL l) (nm : ByteArray) (hn : nm.size ≤ 100000) : ∀ n i : Nat, l.length - i = n → i ≤ l.length → ∀ acc : List ByteArray, acc.length ≤ i → Ev (fun k => abutmentref10_All.l0 k l nm acc (i : Int)) (acc ++ (ofName nm (l.drop i)).map (·.f1)) := by
  have hl := hf.len
  intro n
  induction n with
  | zero =>
    intro i hn hi acc ha
    rw [List.drop_eq_nil_of_le (by omega)]
    have e : acc ++ (ofName nm []).map (·.f1) = acc := List.append_nil _
    rw [e]
    refine Ev.step (f := fun _ => some acc) (fun k => ?_) (Ev.now _)
    simp only [abutmentref10_All.l0]; rw [if_neg (by omega)]
  | succ n ih =>
    intro i hn2 hi acc ha
    have hi' : i < l.length := by omega
    obtain ⟨p, hp⟩ : ∃ p, p = l[i] := ⟨_, rfl⟩
    have hrd : rd_T44 l (i : Int) = p := by rw [rdF_at l i hi', hp]
    have hsz := hf.sz p (by rw [hp]; exact List.getElem_mem hi')
    have hd : l.drop i = p :: l.drop (i + 1) := by rw [hp]; exact List.drop_eq_getElem_cons hi'
    have q1 : (i : Int) < (l.length : Int) := by omega
    have q2 : (0 : Int) ≤ (i : Int) := by omega
    have q3 : acc.length < 8796093022208 := by omega
    have ih1 := ih (i + 1) (by omega) (by omega) (acc ++ [p.f1]) (by rw [List.length_append, List.length_singleton]; omega)
    have ih2 := ih (i + 1) (by omega) (by omega) acc (by omega)
    have e1 : wrap64 ((i : Int) + 1) = ((i + 1 : Nat) : Int) := (wI _ (by omega) (by omega)).trans rfl
    have his : Ev (fun k => abutmentref10_Is.f k p.f0 nm) (foldB nm p.f0) := by
      unfold abutmentref10_Is.f
      refine Ev.bind (rlower_ev p.f0 (by omega)) (Ev.bind (rlower_ev nm (by omega)) ?_)
      rw [low_eq, fold_sym]
      exact Ev.now _
    refine Ev.step (f := fun k => (abutmentref10_Is.f k p.f0 nm).bind fun t134 => (if t134 = true then (if acc.length < 8796093022208 then (abutmentref10_All.l0 k l nm (acc ++ [p.f1]) ((i + 1 : Nat) : Int)) else (none)) else (abutmentref10_All.l0 k l nm acc ((i + 1 : Nat) : Int)))) (fun k => ?_) (Ev.bind his ?_)
    · simp only [abutmentref10_All.l0, hrd]
      rw [if_pos q1, if_pos q2, e1]
    · rw [hd]
      cases hal : foldB nm p.f0 with
      | true =>
        have e : (ofName nm (p :: l.drop (i + 1))).map (·.f1) = p.f1 :: (ofName nm (l.drop (i + 1))).map (·.f1) := by rw [ofName, List.filter_cons, if_pos hal]; rfl
        rw [e]
        rw [List.append_assoc] at ih1
        exact evt_pos rfl (evt_pos q3 ih1)
      | false =>
        have e : (ofName nm (p :: l.drop (i + 1))).map (·.f1) = (ofName nm (l.drop (i + 1))).map (·.f1) := by rw [ofName, List.filter_cons, if_neg (by rw [hal]; decide)]; rfl
        rw [e]
        exact evt_neg (by decide) ih2
theorem rall_ev (l : List S44) (hf : FewL l) (nm : ByteArray) (hn : nm.size ≤ 100000) : Ev (fun k => abutmentref10_All.f k l nm) ((ofName nm l).map (·.f1)) := by
  have := rall_l0 l hf nm hn _ 0 rfl (Nat.zero_le _) [] (Nat.le_refl _)
  rw [List.drop_zero, List.nil_append] at this
  exact this
theorem rmerge_l0 (l : List S44) (hf : FewL l) (m : List S44) (hm : FewL m) : ∀ n i : Nat, m.length - i = n → i ≤ m.length → ∀ acc : List S44, acc.length ≤ 40 + i → Ev (fun k => abutmentref26_Merge.l0 k l acc m (i : Int)) (acc ++ (m.drop i).filter fun p => freeB l p.f0) := by
  have hl := hf.len
  have hml := hm.len
  intro n
  induction n with
  | zero =>
    intro i hn hi acc ha
    rw [List.drop_eq_nil_of_le (by omega), List.filter_nil, List.append_nil]
    refine Ev.step (f := fun _ => some acc) (fun k => ?_) (Ev.now _)
    simp only [abutmentref26_Merge.l0]; rw [if_neg (by omega)]
  | succ n ih =>
    intro i hn2 hi acc ha
    have hi' : i < m.length := by omega
    obtain ⟨p, hp⟩ : ∃ p, p = m[i] := ⟨_, rfl⟩
    have hrd : rd_T44 m (i : Int) = p := by rw [rdF_at m i hi', hp]
    have hsz := hm.sz p (by rw [hp]; exact List.getElem_mem hi')
    have hd : m.drop i = p :: m.drop (i + 1) := by rw [hp]; exact List.drop_eq_getElem_cons hi'
    have q1 : (i : Int) < (m.length : Int) := by omega
    have q2 : (0 : Int) ≤ (i : Int) := by omega
    have q3 : acc.length < 4398046511104 := by omega
    have ih1 := ih (i + 1) (by omega) (by omega) (acc ++ [p]) (by rw [List.length_append, List.length_singleton]; omega)
    have ih2 := ih (i + 1) (by omega) (by omega) acc (by omega)
    have e1 : wrap64 ((i : Int) + 1) = ((i + 1 : Nat) : Int) := (wI _ (by omega) (by omega)).trans rfl
    refine Ev.step (f := fun k => (abutmentref10_All.f k l p.f0).bind fun t149 => (if (t149.length : Int) = 0 then (if acc.length < 4398046511104 then (abutmentref26_Merge.l0 k l (acc ++ [p]) m ((i + 1 : Nat) : Int)) else (none)) else (abutmentref26_Merge.l0 k l acc m ((i + 1 : Nat) : Int)))) (fun k => ?_) (Ev.bind (rall_ev l hf p.f0 (by omega)) ?_)
    · simp only [abutmentref26_Merge.l0, hrd]
      rw [if_pos q1, if_pos q2, e1]
    · rw [hd, List.filter_cons]
      by_cases hal : ((ofName p.f0 l).length : Int) = 0
      · have e : freeB l p.f0 = true := beq_iff_eq.mpr hal
        rw [if_pos e]
        rw [List.append_assoc] at ih1
        exact evt_pos (by rw [List.length_map]; exact hal) (evt_pos q3 ih1)
      · have e : ¬ (freeB l p.f0 = true) := fun h => hal (beq_iff_eq.mp h)
        rw [if_neg e]
        exact evt_neg (by rw [List.length_map]; exact hal) ih2
theorem keep_few {l : List S44} (hf : FewL l) : FewL (keepL l) := ⟨Nat.le_trans (List.length_filter_le _ _) hf.len, fun p hp => hf.sz p (List.mem_filter.1 hp).1⟩
theorem rmerge_ev (l : List S44) (hf : FewL l) (t : List S44) (ht : FewL t) : Ev (fun k => abutmentref26_Merge.f k l t) (mergeL l t) := by
  have hl := hf.len
  unfold abutmentref26_Merge.f
  simp only [Option.bind_some, List.nil_append, List.length_nil]
  refine evt_pos (by omega) (Ev.bind (rkeep_ev t ht) ?_)
  have := rmerge_l0 l hf (keepL t) (keep_few ht) _ 0 rfl (Nat.zero_le _) l (by omega)
  rw [List.drop_zero] at this
  exact this
theorem lives26_f : abutmentlaw26_lives.f = some true := by decide +kernel
theorem keep_f (l : List S44) (h : l.length ≤ 1000000) : trailer_Keep.f l = some (keepL l) := by rw [trailer_Keep.f, if_pos h]
theorem merge_f (l t : List S44) (hf : FewL l) (ht : FewL t) : trailer_Merge.f l t = some (mergeL l t) := by
  have h1 := hf.len
  have h2 := ht.len
  have hsm : smallB t = true := by
    rw [smallB, List.all_eq_true]
    intro p hp
    have := ht.sz p hp
    exact decide_eq_true (by omega)
  rw [trailer_Merge.f, if_pos ⟨by omega, by omega, hsm⟩]
theorem merge_len (l t : List S44) (hf : FewL l) (ht : FewL t) : (mergeL l t).length ≤ 80 := by
  have h1 := hf.len
  have h2 := (keep_few ht).len
  rw [mergeL, List.length_append]
  have := List.length_filter_le (fun p => freeB l p.f0) (keepL t)
  omega
theorem keeps_ev (l t : List S44) (s : ByteArray) : Ev (fun k => abutmentlaw26_TrailerKeeps.f k l t s) true := by
  have hL : Ev (fun _ => (abutmentlaw26_lives.f).bind fun t158 => (some t158)) true := by rw [lives26_f]; exact Ev.now _
  have jt : Ev (fun k => abutmentlaw26_TrailerKeeps.j0 k l t s true) true := by
    refine Ev.step (f := fun k => (abutmentlaw26_lives.f).bind fun t158 => (some t158)) (fun k => ?_) hL
    simp only [abutmentlaw26_TrailerKeeps.j0]
    rw [if_pos trivial]
  unfold abutmentlaw26_TrailerKeeps.f
  refine Ev.bind (fewF_ev l) ?_
  cases h1 : fewF l with
  | false => exact evt_neg (by decide) jt
  | true =>
    refine evt_pos rfl (Ev.bind (fewF_ev t) ?_)
    cases h2 : fewF t with
    | false => exact evt_neg (by decide) jt
    | true =>
      refine evt_pos rfl ?_
      have f1 := few_of h1
      have f2 := few_of h2
      have hl := f1.len
      have hkl := (keep_few f1).len
      have hml := merge_len l t f1 f2
      by_cases hs : s.size ≤ 100
      · rw [decide_eq_false (show ¬ ((s.size : Int) > 100) by omega)]
        refine Ev.step (f := fun k => (abutmentref26_Allowed.f k s).bind fun t160 => (if (allowedB s == t160) = true then ((abutmentref26_Keep.f k l).bind fun t164 => ((abutmentref09_Same.f k (keepL l) t164).bind fun t167 => (if t167 = true then ((abutmentref26_Merge.f k l t).bind fun t171 => ((abutmentref09_Same.f k (mergeL l t) t171).bind fun t174 => (if t174 = true then ((abutmentlaw26_lives.f).bind fun t175 => (some t175)) else (some false)))) else (some false)))) else (some false))) (fun k => ?_)
          (Ev.bind (rallowed_ev s (by omega)) (evt_pos (by simp) (Ev.bind (rkeep_ev l f1) (Ev.bind (sameF_ev _ (by omega)) (evt_pos rfl (Ev.bind (rmerge_ev l f1 t f2) (Ev.bind (sameF_ev _ (by omega)) (evt_pos rfl hL))))))))
        simp only [abutmentlaw26_TrailerKeeps.j0, trailer_Allowed.f, keep_f l (by omega), merge_f l t f1 f2, Option.bind_some]
        rw [if_neg (by decide)]
      · rw [decide_eq_true (show ((s.size : Int) > 100) by omega)]
        exact jt
theorem keeps_walk (A : Option Addr) (L C : Nat) (l : List S44) (A' : Option Addr) (L' C' : Nat) (t : List S44) (s : ByteArray) (W : World) (h : Came44 W A L C l) (h' : Came44 W A' L' C' t) (hs : s.size ≤ 140737488351232) : Calls Try.prog 8 #[.slice A L C, .slice A' L' C', .string s] W fun e w' => e = .returned (.bool true) ∧ Below W.heap.size W w' := by
  obtain ⟨hl, hc, _, hr⟩ := h
  subst hl
  obtain ⟨hl', hc', _, hr'⟩ := h'
  subst hl'
  obtain ⟨k, hk⟩ := (keeps_ev l t s).rounds
  exact abutmentlaw26_TrailerKeeps.calls k A C l A' C' t s true W hr hc hr' hc' hk
end Go.Proofs.Ytbelgmfhaddhmaa.Pure
