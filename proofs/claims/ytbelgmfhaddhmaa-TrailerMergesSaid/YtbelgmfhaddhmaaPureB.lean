/- Lower, Fold, Trim: the package's and the reference's, as lists of octets. -/
import Derived.Test.YtbelgmfhaddhmaaQ2
import Derived.Test.YtbelgmfhaddhmaaQ3
import Derived.Test.YtbelgmfhaddhmaaPureA
namespace Go.Proofs.Ytbelgmfhaddhmaa.Pure
open Go.RowKit Go.Proofs.Ytbelgmfhaddhmaa.Q Go.Proofs.YtbelgmfhaddhmaaW.PrintWords Go.Proofs.YtbelgmfhaddhmaaW.PrintLast Go.Proofs.YtbelgmfhaddhmaaW.PrintMore
set_option linter.unusedVariables false

theorem lower_f (s : ByteArray) (hs : s.size ≤ 140737488351232) : octet_Lower.f s = some (lowS s) := by
  unfold octet_Lower.f lowS; rw [if_pos (by omega)]
theorem rlower_l0 (s : ByteArray) (hs : s.size ≤ 140737488351232) : ∀ n i : Nat, i ≤ s.size → s.size - i = n → ∀ out : List Int, out.length = i → Ev (fun k => abutmentref01_Lower.l0 k s out (i : Int)) (strOfNums (out ++ ((bytesOf s).drop i).map lowI)) := by
  intro n
  induction n with
  | zero =>
    intro i hi hn out ho
    rw [drop_over s i (by omega), List.map_nil, List.append_nil]
    refine Ev.step (f := fun _ => some (strOfNums out)) (fun k => ?_) (Ev.now _)
    simp only [abutmentref01_Lower.l0]; rw [if_neg (by omega)]
  | succ n ih =>
    intro i hi hn out ho
    have hb := bt_range s (i : Int)
    have h1 := ih (i + 1) (by omega) (by omega) (out ++ [lowI (bt s (i : Int))]) (by simp [ho])
    rw [drop_at s i (by omega), List.map_cons]
    rw [List.append_assoc, List.singleton_append] at h1
    refine Ev.step (f := fun k => abutmentref01_Lower.l0 k s (out ++ [lowI (bt s (i : Int))]) ((i + 1 : Nat) : Int)) (fun k => ?_) h1
    simp only [abutmentref01_Lower.l0]
    rw [if_pos (by omega), if_pos (by omega), wI _ (by omega) (by omega)]
    by_cases c1 : bt s (i : Int) ≥ 65
    · by_cases c2 : bt s (i : Int) ≤ 90
      · rw [if_pos c1, if_pos c2, if_pos (by omega), show lowI (bt s (i : Int)) = (bt s (i : Int) + 32) % 256 by unfold lowI; rw [if_pos c1, if_pos c2]; omega]; rfl
      · rw [if_pos c1, if_neg c2, if_pos (by omega), show lowI (bt s (i : Int)) = bt s (i : Int) by unfold lowI; rw [if_pos c1, if_neg c2]]; rfl
    · rw [if_neg c1, if_pos (by omega), show lowI (bt s (i : Int)) = bt s (i : Int) by unfold lowI; rw [if_neg c1]]; rfl
theorem rlower_ev (s : ByteArray) (hs : s.size ≤ 140737488351232) : Ev (fun k => abutmentref01_Lower.f k s) (lowS s) := by
  have h := rlower_l0 s hs _ 0 (by omega) rfl [] rfl
  rw [List.drop_zero, List.nil_append] at h
  exact h
theorem low_f (x : Int) (h : 0 ≤ x ∧ x ≤ 255) : octet_lower.f x = some (lowI x) := by
  unfold octet_lower.f lowI
  repeat' split
  all_goals first | rfl | (congr 1; omega)
/-- Are two texts the same but for the case? -/
def foldB (a b : ByteArray) : Bool := (bytesOf a).map lowI == (bytesOf b).map lowI
theorem fold_l0 (a b : ByteArray) (ha : a.size ≤ 140737488351232) (hab : a.size = b.size) : ∀ n i : Nat, i ≤ a.size → a.size - i = n → Ev (fun k => octet_Fold.l0 k a b (a.size : Int) (i : Int)) (((bytesOf a).drop i).map lowI == ((bytesOf b).drop i).map lowI) := by
  intro n
  induction n with
  | zero =>
    intro i hi hn
    rw [drop_over a i (by omega), drop_over b i (by omega)]
    refine Ev.step (f := fun _ => some true) (fun k => ?_) (Ev.now _)
    simp only [octet_Fold.l0]; rw [if_neg (by omega)]
  | succ n ih =>
    intro i hi hn
    have h1 := ih (i + 1) (by omega) (by omega)
    rw [drop_at a i (by omega), drop_at b i (by omega), List.map_cons, List.map_cons]
    by_cases c : lowI (bt a (i : Int)) = lowI (bt b (i : Int))
    · rw [c, List.cons_beq_cons, beq_self_eq_true, Bool.true_and]
      refine Ev.step (f := fun k => octet_Fold.l0 k a b (a.size : Int) ((i + 1 : Nat) : Int)) (fun k => ?_) h1
      simp only [octet_Fold.l0]
      rw [if_pos (by omega), if_pos (by omega), if_pos (by omega), low_f _ (bt_range a _), Option.bind_some, if_pos (by omega), low_f _ (bt_range b _), Option.bind_some, if_pos c, wI _ (by omega) (by omega)]
      rfl
    · rw [List.cons_beq_cons, beq_eq_false_iff_ne.mpr c, Bool.false_and]
      refine Ev.step (f := fun _ => some false) (fun k => ?_) (Ev.now _)
      simp only [octet_Fold.l0]
      rw [if_pos (by omega), if_pos (by omega), if_pos (by omega), low_f _ (bt_range a _), Option.bind_some, if_pos (by omega), low_f _ (bt_range b _), Option.bind_some, if_neg c]
theorem fold_ev (a b : ByteArray) (ha : a.size ≤ 140737488351232) : Ev (fun k => octet_Fold.f k a b) (foldB a b) := by
  by_cases c : a.size = b.size
  · refine Ev.congr (f := fun k => octet_Fold.l0 k a b (a.size : Int) ((0 : Nat) : Int)) (fun k => ?_) ?_
    · unfold octet_Fold.f; rw [if_pos (by omega)]; rfl
    · have h := fold_l0 a b ha c _ 0 (by omega) rfl
      rwa [List.drop_zero, List.drop_zero] at h
  · refine Ev.congr (f := fun k => some false) (fun k => ?_) ?_
    · unfold octet_Fold.f; rw [if_neg (by omega)]
    · have e : foldB a b = false := by
        rw [foldB, beq_eq_false_iff_ne]
        intro h
        have := congrArg List.length h
        simp [bytesOf_length] at this
        exact c this
      rw [e]; exact Ev.now _
def blk (x : Int) : Bool := x == 32 || x == 9
theorem blank_f (x : Int) : octet_blank.f x = some (blk x) := by
  unfold octet_blank.f blk
  by_cases h : x = 32
  · subst h; rfl
  · rw [if_neg h, beq_eq_false_iff_ne.mpr h, Bool.false_or]
/-- A list without the blanks at its end. -/
def rtrim (l : List Int) : List Int := (l.reverse.dropWhile blk).reverse
def trimL (l : List Int) : List Int := rtrim (l.dropWhile blk)
theorem rtrim_snoc (l : List Int) (x : Int) : rtrim (l ++ [x]) = if blk x then rtrim l else l ++ [x] := by
  unfold rtrim
  rw [List.reverse_append, List.reverse_singleton, List.singleton_append, List.dropWhile_cons]
  split
  · rfl
  · rw [List.reverse_cons, List.reverse_reverse]
theorem rtrim_nil : rtrim [] = [] := rfl
/-- The text without blanks at its ends. -/
def trimS (s : ByteArray) : ByteArray := strOfNums (trimL (bytesOf s))
/-- The octets from i to j. -/
theorem cut_snoc (s : ByteArray) (i j : Nat) (h : i ≤ j) (hj : j < s.size) : bytesOf (s.extract i (j + 1)) = bytesOf (s.extract i j) ++ [bt s (j : Int)] := by
  rw [bytesOf_cut, bytesOf_cut, show j + 1 - i = (j - i) + 1 by omega, List.take_add_one]
  congr 1
  rw [List.getElem?_drop, show i + (j - i) = j by omega, bt_nat s j hj, List.getElem?_eq_getElem (by rw [bytesOf_length]; exact hj)]
  rfl
theorem trim_l1 (s : ByteArray) (hs : s.size ≤ 140737488351232) (i : Nat) : ∀ n j : Nat, i ≤ j → j ≤ s.size → j - i = n → ∃ r, Ev (fun k => octet_Trim.l1 k s (i : Int) (j : Int)) r ∧ bytesOf r = rtrim (bytesOf (s.extract i j)) := by
  intro n
  induction n with
  | zero =>
    intro j hij hj hn
    obtain rfl : i = j := by omega
    refine ⟨s.extract i i, Ev.step (f := fun _ => some (s.extract i i)) (fun k => ?_) (Ev.now _), ?_⟩
    · simp only [octet_Trim.l1]; rw [if_neg (by omega), if_pos (by omega), if_pos (by omega), if_pos (by omega)]; rfl
    · rw [bytesOf_cut, Nat.sub_self, List.take_zero]; rfl
  | succ n ih =>
    intro j hij hj hn
    obtain ⟨m, rfl⟩ : ∃ m, j = m + 1 := ⟨j - 1, by omega⟩
    rw [cut_snoc s i m (by omega) (by omega), rtrim_snoc]
    have e : wrap64 (((m + 1 : Nat) : Int) - 1) = (m : Int) := by rw [wI _ (by omega) (by omega)]; omega
    by_cases c : blk (bt s (m : Int)) = true
    · obtain ⟨r, hr, hb⟩ := ih m (by omega) (by omega) (by omega)
      refine ⟨r, Ev.step (f := fun k => octet_Trim.l1 k s (i : Int) (m : Int)) (fun k => ?_) hr, ?_⟩
      · simp only [octet_Trim.l1]
        rw [if_pos (by omega), e, if_pos (by omega), if_pos (by omega), blank_f, Option.bind_some, if_pos c]
      · rw [if_pos c]; exact hb
    · refine ⟨s.extract i (m + 1), Ev.step (f := fun _ => some (s.extract i (m + 1))) (fun k => ?_) (Ev.now _), ?_⟩
      · simp only [octet_Trim.l1]
        rw [if_pos (by omega), e, if_pos (by omega), if_pos (by omega), blank_f, Option.bind_some, if_neg c, if_pos (by omega), if_pos (by omega), if_pos (by omega)]; rfl
      · rw [if_neg c, cut_snoc s i m (by omega) (by omega)]
theorem trim_l0 (s : ByteArray) (hs : s.size ≤ 140737488351232) : ∀ n i : Nat, i ≤ s.size → s.size - i = n → ∃ r, Ev (fun k => octet_Trim.l0 k s (i : Int) (s.size : Int)) r ∧ bytesOf r = trimL ((bytesOf s).drop i) := by
  intro n
  induction n with
  | zero =>
    intro i hi hn
    obtain rfl : i = s.size := by omega
    obtain ⟨r, hr, hb⟩ := trim_l1 s hs s.size _ s.size (by omega) (by omega) rfl
    refine ⟨r, Ev.step (f := fun k => octet_Trim.j1 k s (s.size : Int) (s.size : Int)) (fun k => ?_) (Ev.step (f := fun k => octet_Trim.l1 k s (s.size : Int) (s.size : Int)) (fun k => rfl) hr), ?_⟩
    · simp only [octet_Trim.l0]; rw [if_neg (by omega)]
    · rw [hb, drop_over s _ (by omega), bytesOf_cut, Nat.sub_self, List.take_zero]; rfl
  | succ n ih =>
    intro i hi hn
    rw [drop_at s i (by omega)]
    by_cases c : blk (bt s (i : Int)) = true
    · obtain ⟨r, hr, hb⟩ := ih (i + 1) (by omega) (by omega)
      refine ⟨r, Ev.step (f := fun k => octet_Trim.l0 k s ((i + 1 : Nat) : Int) (s.size : Int)) (fun k => ?_) hr, ?_⟩
      · simp only [octet_Trim.l0]
        rw [if_pos (by omega), if_pos (by omega), if_pos (by omega), blank_f, Option.bind_some, if_pos c, wI _ (by omega) (by omega)]; rfl
      · rw [trimL, List.dropWhile_cons, if_pos c]; exact hb
    · obtain ⟨r, hr, hb⟩ := trim_l1 s hs i _ s.size (by omega) (by omega) rfl
      refine ⟨r, Ev.step (f := fun k => octet_Trim.j1 k s (i : Int) (s.size : Int)) (fun k => ?_) (Ev.step (f := fun k => octet_Trim.l1 k s (i : Int) (s.size : Int)) (fun k => rfl) hr), ?_⟩
      · simp only [octet_Trim.l0]
        rw [if_pos (by omega), if_pos (by omega), if_pos (by omega), blank_f, Option.bind_some, if_neg c]
      · rw [trimL, List.dropWhile_cons, if_neg c, hb, bytesOf_cut, ← drop_at s i (by omega), List.take_of_length_le (by rw [List.length_drop, bytesOf_length]; omega)]
theorem trim_in {l : List Int} (h : ∀ x ∈ l, 0 ≤ x ∧ x ≤ 255) : ∀ x ∈ trimL l, 0 ≤ x ∧ x ≤ 255 := by
  intro x hx
  apply h
  have h1 : x ∈ (l.dropWhile blk).reverse := (List.dropWhile_sublist _).subset (List.mem_reverse.1 hx)
  exact (List.dropWhile_sublist _).subset (List.mem_reverse.1 h1)
theorem trimS_bytes (s : ByteArray) : bytesOf (trimS s) = trimL (bytesOf s) := bytesOf_strOf _ (trim_in (bytes_in s))
theorem trim_ev (s : ByteArray) (hs : s.size ≤ 140737488351232) : Ev (fun k => octet_Trim.f k s) (trimS s) := by
  obtain ⟨r, hr, hb⟩ := trim_l0 s hs _ 0 (by omega) rfl
  rw [List.drop_zero, ← trimS_bytes] at hb
  rw [← str_ext hb]
  exact hr
theorem rtrim_l1 : ∀ (n : Nat) (s : ByteArray), s.size = n → s.size ≤ 140737488351232 → ∃ r, Ev (fun k => abutmentref01_Trim.l1 k s) r ∧ bytesOf r = rtrim (bytesOf s) := by
  intro n
  induction n with
  | zero =>
    intro s hn hs
    refine ⟨s, Ev.step (f := fun _ => some s) (fun k => ?_) (Ev.now _), ?_⟩
    · simp only [abutmentref01_Trim.l1]; rw [if_neg (by omega)]
    · have : bytesOf s = [] := List.eq_nil_of_length_eq_zero (by rw [bytesOf_length]; exact hn)
      rw [this]; rfl
  | succ n ih =>
    intro s hn hs
    have e : wrap64 ((s.size : Int) - 1) = (n : Int) := by rw [wI _ (by omega) (by omega)]; omega
    have hsn : bytesOf s = bytesOf (s.extract 0 n) ++ [bt s (n : Int)] := by
      rw [← cut_snoc s 0 n (by omega) (by omega), bytesOf_cut, List.drop_zero, List.take_of_length_le (by rw [bytesOf_length]; omega)]
    have hz : (s.extract 0 n).size = n := by rw [ByteArray.size_extract]; omega
    by_cases c : bt s (n : Int) = 32 ∨ bt s (n : Int) = 9
    · obtain ⟨r, hr, hb⟩ := ih (s.extract 0 n) hz (by omega)
      refine ⟨r, Ev.step (f := fun k => abutmentref01_Trim.l1 k (s.extract 0 n)) (fun k => ?_) hr, ?_⟩
      · simp only [abutmentref01_Trim.l1]
        rw [if_pos (by omega), e, if_pos (by omega), if_pos (by omega)]
        by_cases c1 : bt s (n : Int) = 32
        · rw [if_pos c1, if_pos (by omega)]; rfl
        · rw [if_neg c1, if_pos (by omega), if_pos (by omega)]; rfl
      · rw [hsn, rtrim_snoc, if_pos (by simp [blk, c])]; exact hb
    · refine ⟨s, Ev.step (f := fun _ => some s) (fun k => ?_) (Ev.now _), ?_⟩
      · simp only [abutmentref01_Trim.l1]
        rw [if_pos (by omega), e, if_pos (by omega), if_pos (by omega), if_neg (by omega), if_neg (by omega)]
      · conv => rhs; rw [hsn, rtrim_snoc]
        rw [if_neg (by simp [blk]; omega)]; exact hsn
theorem rtrim_l0 : ∀ (n : Nat) (s : ByteArray), s.size = n → s.size ≤ 140737488351232 → ∃ r, Ev (fun k => abutmentref01_Trim.l0 k s) r ∧ bytesOf r = trimL (bytesOf s) := by
  intro n
  induction n with
  | zero =>
    intro s hn hs
    obtain ⟨r, hr, hb⟩ := rtrim_l1 _ s rfl hs
    refine ⟨r, Ev.step (f := fun k => abutmentref01_Trim.j1 k s) (fun k => ?_) (Ev.step (f := fun k => abutmentref01_Trim.l1 k s) (fun k => rfl) hr), ?_⟩
    · simp only [abutmentref01_Trim.l0]; rw [if_neg (by omega)]
    · have : bytesOf s = [] := List.eq_nil_of_length_eq_zero (by rw [bytesOf_length]; exact hn)
      rw [hb, this]; rfl
  | succ n ih =>
    intro s hn hs
    have hsn : bytesOf s = bt s 0 :: bytesOf (s.extract 1 s.size) := by
      have := drop_at s 0 (by omega)
      rw [List.drop_zero] at this
      rw [bytesOf_cut, List.take_of_length_le (by rw [List.length_drop, bytesOf_length]; omega)]
      exact this
    have hz : (s.extract 1 s.size).size = n := by rw [ByteArray.size_extract]; omega
    by_cases c : bt s 0 = 32 ∨ bt s 0 = 9
    · obtain ⟨r, hr, hb⟩ := ih (s.extract 1 s.size) hz (by omega)
      refine ⟨r, Ev.step (f := fun k => abutmentref01_Trim.l0 k (s.extract 1 s.size)) (fun k => ?_) hr, ?_⟩
      · simp only [abutmentref01_Trim.l0]
        rw [if_pos (by omega), if_pos (by omega)]
        by_cases c1 : bt s 0 = 32
        · rw [if_pos c1, if_pos (by omega)]
        · rw [if_neg c1, if_pos (by omega), if_pos (by omega)]
      · rw [hsn, trimL, List.dropWhile_cons, if_pos (by simp [blk, c])]; exact hb
    · obtain ⟨r, hr, hb⟩ := rtrim_l1 _ s rfl hs
      refine ⟨r, Ev.step (f := fun k => abutmentref01_Trim.j1 k s) (fun k => ?_) (Ev.step (f := fun k => abutmentref01_Trim.l1 k s) (fun k => rfl) hr), ?_⟩
      · simp only [abutmentref01_Trim.l0]
        rw [if_pos (by omega), if_pos (by omega), if_neg (by omega), if_neg (by omega)]
      · rw [hb, trimL]; congr 1; rw [hsn, List.dropWhile_cons, if_neg (by simp [blk]; omega)]
theorem rtrim_ev (s : ByteArray) (hs : s.size ≤ 140737488351232) : Ev (fun k => abutmentref01_Trim.f k s) (trimS s) := by
  obtain ⟨r, hr, hb⟩ := rtrim_l0 _ s rfl hs
  rw [← trimS_bytes] at hb
  rw [← str_ext hb]
  exact hr
end Go.Proofs.Ytbelgmfhaddhmaa.Pure
