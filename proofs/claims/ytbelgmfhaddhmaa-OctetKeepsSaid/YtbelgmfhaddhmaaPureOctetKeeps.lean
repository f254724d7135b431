/- OctetKeeps: what is made small stays so; to be the same but for the case goes both ways, and on; what is trimmed stays so. -/
import Derived.Test.YtbelgmfhaddhmaaQ5
import Derived.Test.YtbelgmfhaddhmaaPureB
namespace Go.Proofs.Ytbelgmfhaddhmaa.Pure
open Go.RowKit Go.Proofs.Ytbelgmfhaddhmaa.Q Go.Proofs.YtbelgmfhaddhmaaW.PrintWords Go.Proofs.YtbelgmfhaddhmaaW.PrintLast Go.Proofs.YtbelgmfhaddhmaaW.PrintMore
theorem rev_ind {P : List Int → Prop} (h0 : P []) (h1 : ∀ l a, P l → P (l ++ [a])) : ∀ l, P l := by
  have h : ∀ l : List Int, P l.reverse := by
    intro l
    induction l with
    | nil => exact h0
    | cons a l ih => rw [List.reverse_cons]; exact h1 _ _ ih
  intro l
  have := h l.reverse
  rwa [List.reverse_reverse] at this
theorem dw_none (p : Int → Bool) (l : List Int) (h : ∀ x ∈ l, p x = true) : l.dropWhile p = [] := by
  induction l with
  | nil => rfl
  | cons a l ih => rw [List.dropWhile_cons, if_pos (h a (by simp)), ih (fun x hx => h x (by simp [hx]))]
theorem lowS_lowS (a : ByteArray) : lowS (lowS a) = lowS a := by
  apply str_ext
  rw [lowS_bytes, lowS_bytes, List.map_map]
  exact List.map_congr_left (fun x _ => low_low x)
theorem fold_lowS (a : ByteArray) : foldB a (lowS a) = true := by
  rw [foldB, beq_iff_eq, lowS_bytes, List.map_map]
  exact (List.map_congr_left (fun x _ => low_low x)).symm
theorem fold_comm (a b : ByteArray) : foldB b a = foldB a b := by
  rw [Bool.eq_iff_iff, foldB, foldB, beq_iff_eq, beq_iff_eq]; exact eq_comm
theorem fold_trans {a b c : ByteArray} (h : foldB a b = true) (k : foldB b c = true) : foldB a c = true := by
  rw [foldB, beq_iff_eq] at *; exact h.trans k
theorem dw_dw (p : Int → Bool) (l : List Int) : (l.dropWhile p).dropWhile p = l.dropWhile p := by
  induction l with
  | nil => rfl
  | cons a l ih =>
    by_cases h : p a = true
    · rw [List.dropWhile_cons, if_pos h, ih]
    · rw [List.dropWhile_cons, if_neg h, List.dropWhile_cons, if_neg h]
theorem dw_head (p : Int → Bool) (l : List Int) : ∀ x, (l.dropWhile p).head? = some x → p x = false := by
  induction l with
  | nil => intro x h; simp at h
  | cons a l ih =>
    intro x h
    by_cases hp : p a = true
    · rw [List.dropWhile_cons, if_pos hp] at h; exact ih x h
    · rw [List.dropWhile_cons, if_neg hp] at h; simp at h; subst h; simpa using hp
theorem dw_id (p : Int → Bool) {l : List Int} (h : ∀ x, l.head? = some x → p x = false) : l.dropWhile p = l := by
  cases l with
  | nil => rfl
  | cons a l => rw [List.dropWhile_cons, if_neg (by simp [h a rfl])]
theorem rtrim_last (l : List Int) : ∀ x, (rtrim l).getLast? = some x → blk x = false := by
  intro x h
  rw [rtrim, List.getLast?_reverse] at h
  exact dw_head blk _ x h
/-- What is trimmed at its end keeps its head, if it has one left. -/
theorem rtrim_head (l : List Int) : ∀ x, (rtrim l).head? = some x → l.head? = some x := by
  refine rev_ind (P := fun l => ∀ x, (rtrim l).head? = some x → l.head? = some x) (fun x h => h) ?_ l
  · intro l a ih x h
    rw [rtrim_snoc] at h
    split at h
    · have := ih x h
      cases l with
      | nil => simp at this
      | cons b l => simpa using this
    · exact h
theorem trimL_head (l : List Int) : ∀ x, (trimL l).head? = some x → blk x = false := fun x h => dw_head blk l x (rtrim_head _ x h)
theorem trimL_last (l : List Int) : ∀ x, (trimL l).getLast? = some x → blk x = false := fun x h => rtrim_last _ x h
theorem trimL_id {l : List Int} (h1 : ∀ x, l.head? = some x → blk x = false) (h2 : ∀ x, l.getLast? = some x → blk x = false) : trimL l = l := by
  rw [trimL, dw_id blk h1, rtrim, dw_id blk (by intro x h; rw [List.head?_reverse] at h; exact h2 x h), List.reverse_reverse]
theorem trimS_trimS (a : ByteArray) : trimS (trimS a) = trimS a := by
  apply str_ext
  rw [trimS_bytes, trimS_bytes]
  exact trimL_id (trimL_head _) (trimL_last _)
theorem rtrim_blank (l : List Int) (b : List Int) (h : ∀ x ∈ b, blk x = true) : rtrim (l ++ b) = rtrim l := by
  refine rev_ind (P := fun b => (∀ x ∈ b, blk x = true) → rtrim (l ++ b) = rtrim l) (fun _ => by rw [List.append_nil]) ?_ b h
  intro b a ih h
  rw [← List.append_assoc, rtrim_snoc, if_pos (h a (by simp)), ih (fun x hx => h x (by simp [hx]))]
theorem rtrim_all (b : List Int) (h : ∀ x ∈ b, blk x = true) : rtrim b = [] := by
  have := rtrim_blank [] b h
  rw [List.nil_append] at this
  rw [this]; rfl
theorem dw_append (l b : List Int) (h : ∀ x ∈ b, blk x = true) : rtrim ((l ++ b).dropWhile blk) = rtrim (l.dropWhile blk) := by
  induction l with
  | nil =>
    rw [List.nil_append]
    have : b.dropWhile blk = [] := dw_none blk b h
    rw [this]; rfl
  | cons a l ih =>
    by_cases c : blk a = true
    · rw [List.cons_append, List.dropWhile_cons, if_pos c, List.dropWhile_cons, if_pos c, ih]
    · rw [List.cons_append, List.dropWhile_cons, if_neg c, List.dropWhile_cons, if_neg c, ← List.cons_append, rtrim_blank _ _ h]
theorem trimS_around (a : ByteArray) : trimS (((⟨#[32, 9]⟩ : ByteArray) ++ a) ++ (⟨#[9, 32]⟩ : ByteArray)) = trimS a := by
  apply str_ext
  rw [trimS_bytes, trimS_bytes, bytesOf_append, bytesOf_append, show bytesOf (⟨#[32, 9]⟩ : ByteArray) = [32, 9] by decide, show bytesOf (⟨#[9, 32]⟩ : ByteArray) = [9, 32] by decide]
  rw [trimL, dw_append _ _ (by decide), List.cons_append, List.dropWhile_cons, if_pos (by decide), List.singleton_append, List.dropWhile_cons, if_pos (by decide)]
  rfl
theorem tc_vi (x : Int) (h : tcI x = true) : viI x = true := by
  have hm : ∀ m ∈ marksL, 32 < m ∧ m < 127 := by decide
  simp only [tcI, Bool.or_eq_true, Bool.and_eq_true, decide_eq_true_eq] at h
  rw [viI, Bool.and_eq_true, decide_eq_true_eq, decide_eq_true_eq]
  rcases h with ((h | h) | h) | h
  · omega
  · omega
  · omega
  · rw [markB, List.contains_iff_mem] at h
    exact hm x h
theorem vi_va (x : Int) (h : viI x = true) : vaI x = true := by
  rw [viI, Bool.and_eq_true, decide_eq_true_eq, decide_eq_true_eq] at h
  rw [vaI, decide_eq_true (show 32 ≤ x by omega), decide_eq_false (show ¬ x = 127 by omega)]; simp
theorem vi_blk (x : Int) (h : viI x = true) : blk x = false := by
  rw [viI, Bool.and_eq_true, decide_eq_true_eq, decide_eq_true_eq] at h
  rw [blk, beq_eq_false_iff_ne.mpr (by omega), beq_eq_false_iff_ne.mpr (by omega)]; rfl
theorem token_more {a : ByteArray} (h : tokenI a = true) : visibleI a = true ∧ valueI a = true ∧ trimS a = a := by
  rw [tokenI, Bool.and_eq_true] at h
  have hv : ∀ x ∈ bytesOf a, viI x = true := fun x hx => tc_vi x (List.all_eq_true.1 h.2 x hx)
  refine ⟨?_, ?_, ?_⟩
  · rw [visibleI, h.1, Bool.true_and]; exact List.all_eq_true.2 hv
  · exact List.all_eq_true.2 (fun x hx => vi_va x (hv x hx))
  · apply str_ext
    rw [trimS_bytes]
    exact trimL_id (fun x hx => vi_blk x (hv x (List.mem_of_head? hx))) (fun x hx => vi_blk x (hv x (List.mem_of_getLast? hx)))
theorem trimS_ends (a : ByteArray) (h : 0 < (trimS a).size) : blk (bt (trimS a) 0) = false ∧ blk (bt (trimS a) ((trimS a).size - 1 : Nat)) = false := by
  have hl := bytesOf_length (trimS a)
  constructor
  · refine trimL_head (bytesOf a) _ ?_
    rw [← trimS_bytes, List.head?_eq_getElem?, List.getElem?_eq_getElem (by omega)]
    have := bt_nat (trimS a) 0 h
    exact congrArg some this.symm
  · refine trimL_last (bytesOf a) _ ?_
    rw [← trimS_bytes, List.getLast?_eq_getElem?, hl, List.getElem?_eq_getElem (by omega)]
    have := bt_nat (trimS a) ((trimS a).size - 1) (by omega)
    exact congrArg some this.symm
theorem trimS_size (a : ByteArray) : (trimS a).size ≤ a.size := by
  rw [← bytesOf_length, trimS_bytes, ← bytesOf_length a, trimL, rtrim, List.length_reverse]
  have h1 := (List.dropWhile_sublist (l := ((bytesOf a).dropWhile blk).reverse) blk).length_le
  have h2 := (List.dropWhile_sublist (l := bytesOf a) blk).length_le
  rw [List.length_reverse] at h1
  omega
theorem keeps_j2 (a : ByteArray) : Ev (fun k => abutmentlaw01_OctetKeeps.j2 k a (trimS a) false) true := by
  cases ht : tokenI a with
  | true =>
    obtain ⟨h1, h2, h3⟩ := token_more ht
    refine Ev.step (f := fun k => (abutmentlaw01_lives.f k).bind fun t => some t) (fun k => ?_) (Ev.bind lives_ev (Ev.now _))
    simp only [abutmentlaw01_OctetKeeps.j2, octet_Token.f, octet_Visible.f, octet_Value.f, ht, h1, h2, h3, Option.bind_some]
    rfl
  | false =>
    refine Ev.step (f := fun k => (abutmentlaw01_lives.f k).bind fun t => some t) (fun k => ?_) (Ev.bind lives_ev (Ev.now _))
    simp only [abutmentlaw01_OctetKeeps.j2, octet_Token.f, ht, Option.bind_some]
    rfl
theorem keeps_j1 (a : ByteArray) (ha : a.size ≤ 3000) : Ev (fun k => abutmentlaw01_OctetKeeps.j1 k a (trimS a) false) true := by
  refine Ev.step (f := fun k => abutmentlaw01_OctetKeeps.j2 k a (trimS a) false) (fun k => ?_) (keeps_j2 a)
  have hz := trimS_size a
  simp only [abutmentlaw01_OctetKeeps.j1]
  rw [if_neg (by simp)]
  by_cases c : ((trimS a).size : Int) > 0
  · obtain ⟨h1, h2⟩ := trimS_ends a (by omega)
    have e : wrap64 (((trimS a).size : Int) - 1) = (((trimS a).size - 1 : Nat) : Int) := by rw [wI _ (by omega) (by omega)]; omega
    rw [blk, Bool.or_eq_false_iff, beq_eq_false_iff_ne, beq_eq_false_iff_ne] at h1 h2
    rw [if_pos c, if_pos (by omega), if_neg h1.1, if_neg h1.2, e, if_pos (by omega), if_pos (by omega), if_neg h2.1, beq_eq_false_iff_ne.mpr h2.2]
  · rw [if_neg c]
theorem keeps_j0 (a : ByteArray) (ha : a.size ≤ 3000) : Ev (fun k => abutmentlaw01_OctetKeeps.j0 k a (trimS a) false) true := by
  have hz := trimS_size a
  have hs : (((⟨#[32, 9]⟩ : ByteArray) ++ a) ++ (⟨#[9, 32]⟩ : ByteArray)).size ≤ 140737488351232 := by
    rw [ByteArray.size_append, ByteArray.size_append]
    show 2 + a.size + 2 ≤ _
    omega
  refine Ev.step (f := fun k => (octet_Trim.f k (trimS a)).bind fun t150 => if t150.toList = (trimS a).toList then ((octet_Trim.f k (((⟨#[32, 9]⟩ : ByteArray) ++ a) ++ (⟨#[9, 32]⟩ : ByteArray))).bind fun t151 => abutmentlaw01_OctetKeeps.j1 k a (trimS a) (t151.toList != (trimS a).toList)) else abutmentlaw01_OctetKeeps.j1 k a (trimS a) true) (fun k => ?_) ?_
  · simp only [abutmentlaw01_OctetKeeps.j0]
    rw [if_neg (by simp), if_pos (by omega), if_pos (by rw [ByteArray.size_append]; show 2 + a.size + 2 ≤ _; omega)]
  · refine Ev.bind (trim_ev _ (by omega)) ?_
    simp only [trimS_trimS, if_true]
    refine Ev.bind (trim_ev _ hs) ?_
    simp only [trimS_around, bne_self_eq_false]
    exact keeps_j1 a ha
theorem OctetKeeps : abutmentlaw01_OctetKeeps.Pure := by
  intro a0 a1 a2 h0 h1 h2
  have hc0 := cut3_size a0
  have hc1 := cut3_size a1
  have hc2 := cut3_size a2
  have hl := lowS_size (cut3 a0)
  have he : Ev (fun k => abutmentlaw01_OctetKeeps.f k a0 a1 a2) true := by
    refine Ev.congr (f := fun k => (octet_Trim.f k (cut3 a0)).bind fun t142 => (octet_Fold.f k (cut3 a0) (lowS (cut3 a0))).bind fun t144 => if t144 = true then ((octet_Fold.f k (cut3 a0) (cut3 a1)).bind fun t145 => (octet_Fold.f k (cut3 a1) (cut3 a0)).bind fun t146 => if (t145 != t146) = true then abutmentlaw01_OctetKeeps.j0 k (cut3 a0) t142 true else ((octet_Fold.f k (cut3 a0) (cut3 a1)).bind fun t147 => if t147 = true then ((octet_Fold.f k (cut3 a1) (cut3 a2)).bind fun t148 => if t148 = true then ((octet_Fold.f k (cut3 a0) (cut3 a2)).bind fun t149 => abutmentlaw01_OctetKeeps.j0 k (cut3 a0) t142 (!t149)) else abutmentlaw01_OctetKeeps.j0 k (cut3 a0) t142 false) else abutmentlaw01_OctetKeeps.j0 k (cut3 a0) t142 false)) else abutmentlaw01_OctetKeeps.j0 k (cut3 a0) t142 true) (fun k => ?_) ?_
    · unfold abutmentlaw01_OctetKeeps.f
      rw [mn_min, mn_min, mn_min, if_pos (by omega), if_pos (by omega), if_pos (by omega), if_pos (by omega), if_pos (by omega), if_pos (by omega)]
      simp only [Int.toNat_natCast]
      show (octet_Lower.f (cut3 a0)).bind _ = _
      rw [lower_f _ (by omega), Option.bind_some]
      refine congrArg (Option.bind (octet_Trim.f k (cut3 a0))) (funext fun t => ?_)
      rw [lower_f _ (by omega), Option.bind_some, lowS_lowS, if_pos rfl]
      show (if ((lowS (cut3 a0)).size : Int) = ((cut3 a0).size : Int) then _ else _) = _
      rw [if_pos (by omega)]
      rfl
    · refine Ev.bind (trim_ev _ (by omega)) ?_
      refine Ev.bind (fold_ev _ _ (by omega)) ?_
      simp only [fold_lowS, if_true]
      refine Ev.bind (fold_ev _ _ (by omega)) ?_
      refine Ev.bind (fold_ev _ _ (by omega)) ?_
      rw [fold_comm (cut3 a0) (cut3 a1)]
      simp only [bne_self_eq_false]
      refine Ev.bind (fold_ev _ _ (by omega)) ?_
      cases hab : foldB (cut3 a0) (cut3 a1) with
      | false => exact keeps_j0 _ hc0
      | true =>
        simp only [if_true]
        refine Ev.bind (fold_ev _ _ (by omega)) ?_
        cases hbc : foldB (cut3 a1) (cut3 a2) with
        | false => exact keeps_j0 _ hc0
        | true =>
          simp only [if_true]
          refine Ev.bind (fold_ev _ _ (by omega)) ?_
          rw [fold_trans hab hbc]
          exact keeps_j0 _ hc0
  exact he.rounds
end Go.Proofs.Ytbelgmfhaddhmaa.Pure
