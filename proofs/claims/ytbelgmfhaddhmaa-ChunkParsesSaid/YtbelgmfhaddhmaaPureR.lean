/- What the reference of layer 4 comes to. -/
import Derived.Test.YtbelgmfhaddhmaaR2
import Derived.Test.YtbelgmfhaddhmaaR3
import Derived.Test.YtbelgmfhaddhmaaPureA
import Derived.Test.YtbelgmfhaddhmaaExtG
namespace Go.Proofs.Ytbelgmfhaddhmaa.Pure
open Go.RowKit Go.Proofs.Ytbelgmfhaddhmaa.Q Go.Proofs.Ytbelgmfhaddhmaa.R Go.Proofs.YtbelgmfhaddhmaaW.PrintWords Go.Proofs.YtbelgmfhaddhmaaW.PrintLast Go.Proofs.YtbelgmfhaddhmaaW.PrintMore
set_option linter.unusedVariables false

theorem rskip_l0 (L : ByteArray) (hs : L.size ≤ 140737488351232) : ∀ n i : Nat, L.size - i = n → SpanAt blI L i → Ev (fun k => abutmentref04_Skip.l0 k L (i : Int)) ((spn blI L : Nat) : Int) := by
  intro n
  induction n with
  | zero =>
    intro i hn h
    have hi := h.1
    rw [h.over (by omega)]
    refine Ev.step (f := fun _ => some (i : Int)) (fun k => ?_) (Ev.now _)
    simp only [abutmentref04_Skip.l0]; rw [if_neg (by omega)]
  | succ n ih =>
    intro i hn h
    have hi : i < L.size := by omega
    cases hp : blI (bt L (i : Int)) with
    | true =>
      refine Ev.step (f := fun k => abutmentref04_Skip.l0 k L ((i + 1 : Nat) : Int)) (fun k => ?_) (ih (i + 1) (by omega) (h.step hi hp))
      simp only [abutmentref04_Skip.l0]
      rw [if_pos (by omega), if_pos (by omega), wI _ (by omega) (by omega)]
      simp only [blI, Bool.or_eq_true, beq_iff_eq] at hp
      by_cases c : bt L (i : Int) = 32
      · rw [if_pos c]; rfl
      · rw [if_neg c, if_pos (by omega)]; rfl
    | false =>
      rw [h.stop hi hp]
      simp only [blI, Bool.or_eq_false_iff, beq_eq_false_iff_ne] at hp
      refine Ev.step (f := fun _ => some (i : Int)) (fun k => ?_) (Ev.now _)
      simp only [abutmentref04_Skip.l0]
      rw [if_pos (by omega), if_pos (by omega), if_neg hp.1, if_neg hp.2]
theorem rskip_ev (L : ByteArray) (hs : L.size ≤ 140737488351232) : Ev (fun k => abutmentref04_Skip.f k L) ((spn blI L : Nat) : Int) := rskip_l0 L hs _ 0 rfl (SpanAt.zero _ _)
theorem rtoken_l0 (L : ByteArray) (hs : L.size ≤ 140737488351232) : ∀ n i : Nat, L.size - i = n → SpanAt tcI L i → Ev (fun k => abutmentref04_Token.l0 k L (i : Int)) ((spn tcI L : Nat) : Int) := by
  intro n
  induction n with
  | zero =>
    intro i hn h
    have hi := h.1
    rw [h.over (by omega)]
    refine Ev.step (f := fun _ => some (i : Int)) (fun k => ?_) (Ev.now _)
    simp only [abutmentref04_Token.l0]; rw [if_neg (by omega)]
  | succ n ih =>
    intro i hn h
    have hi : i < L.size := by omega
    refine Ev.step (f := fun k => (abutmentref01_Tchar.f k (bt L (i : Int))).bind fun t => if t = true then abutmentref04_Token.l0 k L ((i + 1 : Nat) : Int) else some (i : Int)) (fun k => ?_) (Ev.bind (tchar_ev _ (bt_range L _)) ?_)
    · simp only [abutmentref04_Token.l0]
      rw [if_pos (by omega), if_pos (by omega), wI _ (by omega) (by omega)]
      rfl
    · cases hp : tcI (bt L (i : Int)) with
      | true => simp only [if_true]; exact ih (i + 1) (by omega) (h.step hi hp)
      | false => rw [h.stop hi hp]; exact Ev.now _
theorem rtoken_ev (L : ByteArray) (hs : L.size ≤ 140737488351232) : Ev (fun k => abutmentref04_Token.f k L) ((spn tcI L : Nat) : Int) := rtoken_l0 L hs _ 0 rfl (SpanAt.zero _ _)
theorem runtil_l0 (L : ByteArray) (b : Int) (hs : L.size ≤ 140737488351232) : ∀ n i : Nat, L.size - i = n → SpanAt (neI b) L i → Ev (fun k => abutmentref04_Until.l0 k L b (i : Int)) ((spn (neI b) L : Nat) : Int) := by
  intro n
  induction n with
  | zero =>
    intro i hn h
    have hi := h.1
    rw [h.over (by omega)]
    refine Ev.step (f := fun _ => some (i : Int)) (fun k => ?_) (Ev.now _)
    simp only [abutmentref04_Until.l0]; rw [if_neg (by omega)]
  | succ n ih =>
    intro i hn h
    have hi : i < L.size := by omega
    cases hp : neI b (bt L (i : Int)) with
    | true =>
      refine Ev.step (f := fun k => abutmentref04_Until.l0 k L b ((i + 1 : Nat) : Int)) (fun k => ?_) (ih (i + 1) (by omega) (h.step hi hp))
      simp only [abutmentref04_Until.l0]
      rw [if_pos (by omega), if_pos (by omega), if_neg (bne_iff_ne.mp hp), wI _ (by omega) (by omega)]
      rfl
    | false =>
      rw [h.stop hi hp]
      refine Ev.step (f := fun _ => some (i : Int)) (fun k => ?_) (Ev.now _)
      simp only [abutmentref04_Until.l0]
      rw [if_pos (by omega), if_pos (by omega), if_pos (bne_eq_false_iff_eq.mp hp)]
theorem runtil_ev (L : ByteArray) (b : Int) (hs : L.size ≤ 140737488351232) : Ev (fun k => abutmentref04_Until.f k L b) ((spn (neI b) L : Nat) : Int) := runtil_l0 L b hs _ 0 rfl (SpanAt.zero _ _)
theorem one_bytes (L : ByteArray) (i : Nat) (h : i < L.size) : bytesOf (L.extract i (i + 1)) = [bt L (i : Int)] := by
  rw [bytesOf_cut, drop_at L i h, show i + 1 - i = 1 by omega]; rfl
theorem one_value (L : ByteArray) (i : Nat) (h : i < L.size) : valueI (L.extract i (i + 1)) = vaI (bt L (i : Int)) := by
  rw [valueI, one_bytes L i h]; simp
theorem app_one (x : ByteArray) (L : ByteArray) (i : Nat) (h : i < L.size) (out : List Int) (hx : bytesOf x = out) : bytesOf (x ++ L.extract i (i + 1)) = out ++ [bt L (i : Int)] := by
  rw [bytesOf_append, hx, one_bytes L i h]
theorem size_bytes {x : ByteArray} {l : List Int} (h : bytesOf x = l) : x.size = l.length := by rw [← bytesOf_length, h]
theorem str_of {x : ByteArray} {l : List Int} (h : bytesOf x = l) : strOfNums l = x := by rw [← h, strOf_bytesOf]
theorem size_one (L : ByteArray) (i : Nat) (h : i < L.size) : (L.extract i (i + 1)).size = 1 := by rw [ByteArray.size_extract]; omega
/-- What the reference's Quoted tells. -/
def qpair (L : ByteArray) : ByteArray × Int := (qs L, ((qn L : Nat) : Int))
theorem qpair_none {L : ByteArray} (h : Q.quoted L = none) : qpair L = (⟨#[]⟩, 0) := by rw [qpair, qs, qn, h]; rfl
theorem qpair_some {L : ByteArray} {out : List Int} {k : Nat} (h : Q.quoted L = some (out, k)) : qpair L = (strOfNums out, (k : Int)) := by rw [qpair, qs, qn, h]
theorem rquoted_l0 (L : ByteArray) (hs : L.size ≤ 140737488351232) : ∀ n i : Nat, L.size - i ≤ n → ∀ (x : ByteArray) (out : List Int), bytesOf x = out → QtAt L i out → Ev (fun k => abutmentref04_Quoted.l0 k L x (i : Int)) (qpair L) := by
  intro n
  induction n with
  | zero =>
    intro i hn x out hx h
    have hi := h.le
    rw [qpair_none (h.over (by omega))]
    refine Ev.step (f := fun _ => some (⟨#[]⟩, 0)) (fun k => ?_) (Ev.now _)
    simp only [abutmentref04_Quoted.l0]; rw [if_neg (by omega)]
  | succ n ih =>
    intro i hn x out hx h
    have hle := h.le
    have hlen := h.len
    by_cases hi : i < L.size
    · have hxs := size_bytes hx
      by_cases c34 : bt L (i : Int) = 34
      · rw [qpair_some (h.mark hi c34), str_of hx]
        refine Ev.step (f := fun _ => some (x, ((i + 1 : Nat) : Int))) (fun k => ?_) (Ev.now _)
        simp only [abutmentref04_Quoted.l0]
        rw [if_pos (by omega), if_pos (by omega), if_pos c34, wI _ (by omega) (by omega)]
        rfl
      · have e1 : wrap64 ((i : Int) + 1) = ((i + 1 : Nat) : Int) := by rw [wI _ (by omega) (by omega)]; omega
        have e2 : wrap64 (((i + 1 : Nat) : Int) + 1) = ((i + 1 + 1 : Nat) : Int) := by rw [wI _ (by omega) (by omega)]; omega
        by_cases c92 : bt L (i : Int) = 92
        · by_cases hend : i + 1 = L.size
          · rw [qpair_none (h.slashEnd hend c92)]
            refine Ev.step (f := fun _ => some (⟨#[]⟩, 0)) (fun k => ?_) (Ev.now _)
            simp only [abutmentref04_Quoted.l0]
            rw [if_pos (by omega), if_pos (by omega), if_neg c34, if_pos c92, e1, if_pos (by omega)]
          · have hi1 : i + 1 < L.size := by omega
            refine Ev.step (f := fun k => (abutmentref01_Value.f k (L.extract (i + 1) (i + 1 + 1))).bind fun t => if t = true then abutmentref04_Quoted.l0 k L (x ++ L.extract (i + 1) (i + 1 + 1)) ((i + 1 + 1 : Nat) : Int) else some (⟨#[]⟩, 0)) (fun k => ?_) (Ev.bind (value_ev _ (by rw [size_one L _ hi1]; omega)) ?_)
            · simp only [abutmentref04_Quoted.l0]
              rw [if_pos (by omega), if_pos (by omega), if_neg c34, if_pos c92, e1, if_neg (by omega), if_pos (by omega), e2, if_pos (by omega), if_pos (by omega)]
              simp only [Int.toNat_natCast]
              rw [size_one L _ hi1, if_pos (by omega)]
            · rw [one_value L _ hi1]
              cases hv : vaI (bt L ((i + 1 : Nat) : Int)) with
              | true =>
                simp only [if_true]
                exact ih (i + 1 + 1) (by omega) _ _ (app_one x L (i + 1) hi1 out hx) (h.slash hi1 c92 hv)
              | false => rw [qpair_none (h.slashBad hi1 c92 hv)]; exact Ev.now _
        · refine Ev.step (f := fun k => (abutmentref01_Value.f k (L.extract i (i + 1))).bind fun t => if t = true then abutmentref04_Quoted.l0 k L (x ++ L.extract i (i + 1)) ((i + 1 : Nat) : Int) else some (⟨#[]⟩, 0)) (fun k => ?_) (Ev.bind (value_ev _ (by rw [size_one L _ hi]; omega)) ?_)
          · simp only [abutmentref04_Quoted.l0]
            rw [if_pos (by omega), if_pos (by omega), if_neg c34, if_neg c92, if_neg (by omega), e1, if_pos (by omega), if_pos (by omega)]
            simp only [Int.toNat_natCast]
            rw [size_one L _ hi, if_pos (by omega)]
          · rw [one_value L _ hi]
            cases hv : vaI (bt L (i : Int)) with
            | true =>
              simp only [if_true]
              exact ih (i + 1) (by omega) _ _ (app_one x L i hi out hx) (h.plain hi c34 c92 hv)
            | false => rw [qpair_none (h.plainBad hi c34 c92 hv)]; exact Ev.now _
    · rw [qpair_none (h.over hi)]
      refine Ev.step (f := fun _ => some (⟨#[]⟩, 0)) (fun k => ?_) (Ev.now _)
      simp only [abutmentref04_Quoted.l0]; rw [if_neg (by omega)]
theorem rquoted_ev (L : ByteArray) (hs : L.size ≤ 140737488351232) : Ev (fun k => abutmentref04_Quoted.f k L) (qpair L) := by
  by_cases h0 : 0 < L.size
  · by_cases c : bt L 0 = 34
    · refine Ev.congr (f := fun k => abutmentref04_Quoted.j0 k L false) (fun k => ?_) ?_
      · unfold abutmentref04_Quoted.f
        rw [if_neg (by omega), if_pos (by omega), c]; rfl
      · refine Ev.step (f := fun k => abutmentref04_Quoted.l0 k L ⟨#[]⟩ ((1 : Nat) : Int)) (fun k => ?_) (rquoted_l0 L hs _ 1 (Nat.le_refl _) ⟨#[]⟩ [] rfl (QtAt.first h0 c))
        simp only [abutmentref04_Quoted.j0]
        rw [if_neg (by simp)]; rfl
    · rw [qpair_none (quoted_not (fun _ => c))]
      refine Ev.congr (f := fun k => abutmentref04_Quoted.j0 k L true) (fun k => ?_) ?_
      · unfold abutmentref04_Quoted.f
        rw [if_neg (by omega), if_pos (by omega), bne_iff_ne.mpr c]
      · refine Ev.step (f := fun _ => some (⟨#[]⟩, 0)) (fun k => ?_) (Ev.now _)
        simp only [abutmentref04_Quoted.j0]
        rw [if_pos trivial]
  · rw [qpair_none (quoted_not (fun h => absurd h h0))]
    refine Ev.congr (f := fun k => abutmentref04_Quoted.j0 k L true) (fun k => ?_) ?_
    · unfold abutmentref04_Quoted.f
      rw [if_pos (by omega)]
    · refine Ev.step (f := fun _ => some (⟨#[]⟩, 0)) (fun k => ?_) (Ev.now _)
      simp only [abutmentref04_Quoted.j0]
      rw [if_pos trivial]
theorem esc_snoc (s : ByteArray) (i : Nat) (h : i < s.size) : esc ((bytesOf s).take (i + 1)) = esc ((bytesOf s).take i) ++ (if bt s (i : Int) = 34 ∨ bt s (i : Int) = 92 then [92, bt s (i : Int)] else [bt s (i : Int)]) := by
  have e : (bytesOf s).take (i + 1) = (bytesOf s).take i ++ [bt s (i : Int)] := by
    rw [List.take_add_one, bt_nat s i h, List.getElem?_eq_getElem (by rw [bytesOf_length]; exact h)]; rfl
  rw [e, esc_append]
  congr 1
  rw [esc, List.flatMap_cons, List.flatMap_nil, List.append_nil]
theorem rquote_l0 (s : ByteArray) (hs : s.size ≤ 35184372088832) : ∀ n i : Nat, s.size - i = n → i ≤ s.size → ∀ x : ByteArray, bytesOf x = 34 :: esc ((bytesOf s).take i) → Ev (fun k => abutmentref04_Quote.l0 k s x (i : Int)) (strOfNums (34 :: esc (bytesOf s) ++ [34]), true) := by
  intro n
  induction n with
  | zero =>
    intro i hn hi x hx
    have hlen := esc_length ((bytesOf s).take i)
    rw [List.length_take] at hlen
    have hxs := size_bytes hx
    rw [List.length_cons] at hxs
    have e : bytesOf (x ++ (⟨#[34]⟩ : ByteArray)) = 34 :: esc (bytesOf s) ++ [34] := by
      rw [bytesOf_append, hx, List.take_of_length_le (by rw [bytesOf_length]; omega)]; rfl
    rw [str_of e]
    refine Ev.step (f := fun _ => some (x ++ (⟨#[34]⟩ : ByteArray), true)) (fun k => ?_) (Ev.now _)
    simp only [abutmentref04_Quote.l0]
    rw [if_neg (by omega), if_pos (by omega)]
  | succ n ih =>
    intro i hn hi x hx
    have hi' : i < s.size := by omega
    have hlen := esc_length ((bytesOf s).take i)
    rw [List.length_take] at hlen
    have hxs := size_bytes hx
    rw [List.length_cons] at hxs
    have e1 : wrap64 ((i : Int) + 1) = ((i + 1 : Nat) : Int) := by rw [wI _ (by omega) (by omega)]; omega
    by_cases c : bt s (i : Int) = 34 ∨ bt s (i : Int) = 92
    · have hy : bytesOf ((x ++ (⟨#[92]⟩ : ByteArray)) ++ s.extract i (i + 1)) = 34 :: esc ((bytesOf s).take (i + 1)) := by
        rw [bytesOf_append, bytesOf_append, hx, one_bytes s i hi', esc_snoc s i hi', if_pos c, List.append_assoc]; rfl
      have hz : (x ++ (⟨#[92]⟩ : ByteArray)).size = x.size + 1 := by rw [ByteArray.size_append]; rfl
      refine Ev.step (f := fun k => abutmentref04_Quote.l0 k s ((x ++ (⟨#[92]⟩ : ByteArray)) ++ s.extract i (i + 1)) ((i + 1 : Nat) : Int)) (fun k => ?_) (ih (i + 1) (by omega) (by omega) _ hy)
      simp only [abutmentref04_Quote.l0]
      rw [if_pos (by omega), if_pos (by omega), e1]
      by_cases c1 : bt s (i : Int) = 34
      · rw [if_pos c1, if_pos (by omega), if_pos (by omega), if_pos (by omega)]
        simp only [Int.toNat_natCast]
        rw [size_one s i hi', hz, if_pos (by omega)]
      · rw [if_neg c1, if_pos (by omega), if_pos (by omega), if_pos (by omega), if_pos (by omega)]
        simp only [Int.toNat_natCast]
        rw [size_one s i hi', hz, if_pos (by omega)]
    · have hy : bytesOf (x ++ s.extract i (i + 1)) = 34 :: esc ((bytesOf s).take (i + 1)) := by
        rw [bytesOf_append, hx, one_bytes s i hi', esc_snoc s i hi', if_neg c]; rfl
      refine Ev.step (f := fun k => abutmentref04_Quote.l0 k s (x ++ s.extract i (i + 1)) ((i + 1 : Nat) : Int)) (fun k => ?_) (ih (i + 1) (by omega) (by omega) _ hy)
      simp only [abutmentref04_Quote.l0]
      rw [if_pos (by omega), if_pos (by omega), e1, if_neg (by omega), if_neg (by omega), if_pos (by omega), if_pos (by omega)]
      simp only [Int.toNat_natCast]
      rw [size_one s i hi', if_pos (by omega)]
theorem rquote_ev (s : ByteArray) (hs : s.size ≤ 35184372088832) : Ev (fun k => abutmentref04_Quote.f k s) (qtS s, qtOk s) := by
  refine Ev.bind (token_ev s (by omega)) ?_
  rw [qtS, qtOk]
  cases ht : tokenI s with
  | true => simp only [if_true, Bool.true_or]; exact Ev.now _
  | false =>
    refine Ev.bind (value_ev s (by omega)) ?_
    cases hv : valueI s with
    | true =>
      simp only [if_true]
      exact rquote_l0 s hs _ 0 rfl (Nat.zero_le _) _ rfl
    | false => exact Ev.now _
end Go.Proofs.Ytbelgmfhaddhmaa.Pure
