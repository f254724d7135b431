/- ChunkParses: the size that any chunk's line tells, or what is wrong, is the reference's; the examples of the document hold: the plain law. -/
import Derived.Test.YtbelgmfhaddhmaaC8
import Derived.Test.YtbelgmfhaddhmaaPureU
import Derived.Test.YtbelgmfhaddhmaaC4
import Derived.Test.YtbelgmfhaddhmaaC5
import Derived.Test.YtbelgmfhaddhmaaExtT
namespace Go.Proofs.Ytbelgmfhaddhmaa.Pure
open Go.RowKit Go.Proofs.Ytbelgmfhaddhmaa.Q Go.Proofs.Ytbelgmfhaddhmaa.C Go.Proofs.YtbelgmfhaddhmaaW.PrintWords Go.Proofs.YtbelgmfhaddhmaaW.PrintLast Go.Proofs.YtbelgmfhaddhmaaW.PrintMore
set_option linter.unusedVariables false
theorem evc_pos {α : Type} {c : Prop} [Decidable c] {a b : Nat → Option α} {r : α} (h : c) (k : Ev a r) : Ev (fun n => if c then a n else b n) r := Ev.congr (fun n => if_pos h) k
theorem evc_neg {α : Type} {c : Prop} [Decidable c] {a b : Nat → Option α} {r : α} (h : ¬ c) (k : Ev b r) : Ev (fun n => if c then a n else b n) r := Ev.congr (fun n => if_neg h) k
/-! ### Line -/
def lineS (n : Int) : ByteArray := if n < 0 then ⟨#[]⟩ else strOfNums (figsL n.toNat) ++ (⟨#[13, 10]⟩ : ByteArray)
theorem figs_size (n : Nat) : (strOfNums (figsL n)).size = (figsL n).length := by rw [← bytesOf_length, figs_bytes]
theorem line_f (n : Int) (h : n ≤ 9223372036854775807) : chunk_Line.f n = some (lineS n) := by
  unfold chunk_Line.f lineS
  by_cases h0 : n < 0
  · rw [if_pos h0, if_pos h0]
  · have hl := figs_len n.toNat
    have hz := figs_size n.toNat
    rw [if_neg h0, if_neg h0, digits_HexText.f, if_neg h0, digits_figures.f, if_pos ⟨by omega, h, rfl⟩]
    simp only [Option.bind_some]
    rw [if_pos (by omega)]
theorem rline_f (n : Int) (h : n ≤ 9223372036854775807) : abutmentref14_Line.f n = some (lineS n) := by
  unfold abutmentref14_Line.f lineS
  by_cases h0 : n < 0
  · rw [if_pos h0, if_pos h0]
  · have hl := figs_len n.toNat
    have hz := figs_size n.toNat
    have e : IntKind.u64.wrap n = n := u64_in _ (by omega) (by omega)
    rw [if_neg h0, if_neg h0, abutmentref02_HexText.f, if_neg h0, e, abutmentref02_Digits.f, if_pos ⟨by omega, by omega, rfl⟩]
    simp only [Option.bind_some]
    rw [if_pos (by omega)]
/-! ### Sizes -/
theorem szF_len : ∀ (f n e : Nat), (szF f n e).length ≤ f + 1 := by
  intro f
  induction f with
  | zero => intro n e; exact Nat.le_refl _
  | succ f ih =>
    intro n e
    rw [szF]
    split
    · rw [List.length_cons]; have := ih (n - e) e; omega
    · simp
theorem mn_int (a b : Nat) : mn (a : Int) (b : Int) = ((min a b : Nat) : Int) := by unfold mn; split <;> omega
theorem rsizes_l0 (e : Nat) (he : 1 ≤ e) : ∀ (f n : Nat) (acc : List Int), n ≤ f → n ≤ 1048576 → acc.length + n ≤ 1048576 → 1 ≤ n → Ev (fun k => abutmentref14_Sizes.l0 k (n : Int) (e : Int) acc) (acc ++ szF f n e) := by
  have fin : ∀ acc : List Int, Ev (fun k => abutmentref14_Sizes.l0 k ((0 : Nat) : Int) (e : Int) acc) acc := by
    intro acc
    refine Ev.step (f := fun _ => some acc) (fun k => ?_) (Ev.now _)
    simp only [abutmentref14_Sizes.l0]
    rw [if_neg (by omega)]
  intro f
  induction f with
  | zero => intro n acc h1 _ _ h2; omega
  | succ f ih =>
    intro n acc h1 h2 h3 h4
    rw [szF]
    have hm := mn_int n e
    by_cases c : e < n
    · have em : mn (n : Int) (e : Int) = (e : Int) := by rw [hm]; omega
      have e1 : wrap64 ((n : Int) - (e : Int)) = ((n - e : Nat) : Int) := by rw [wI _ (by omega) (by omega)]; omega
      rw [if_pos c]
      have := ih (n - e) (acc ++ [(e : Int)]) (by omega) (by omega) (by rw [List.length_append, List.length_singleton]; omega) (by omega)
      rw [List.append_assoc] at this
      refine Ev.step (f := fun k => abutmentref14_Sizes.l0 k ((n - e : Nat) : Int) (e : Int) (acc ++ [(e : Int)])) (fun k => ?_) this
      simp only [abutmentref14_Sizes.l0, em, e1]
      rw [if_pos (by omega), if_pos (by omega)]
    · have em : mn (n : Int) (e : Int) = (n : Int) := by rw [hm]; omega
      have e1 : wrap64 ((n : Int) - (n : Int)) = ((0 : Nat) : Int) := by rw [wI _ (by omega) (by omega)]; omega
      rw [if_neg c]
      refine Ev.step (f := fun k => abutmentref14_Sizes.l0 k ((0 : Nat) : Int) (e : Int) (acc ++ [(n : Int)])) (fun k => ?_) (fin _)
      simp only [abutmentref14_Sizes.l0, em, e1]
      rw [if_pos (by omega), if_pos (by omega)]
theorem rsizes_ev (n e : Int) : Ev (fun k => abutmentref14_Sizes.f k n e) (szP n e) := by
  have none_ : Ev (fun k => abutmentref14_Sizes.j0 k n e [] true) [] := by
    refine Ev.step (f := fun _ => some []) (fun k => ?_) (Ev.now _)
    simp only [abutmentref14_Sizes.j0]
    rw [if_pos trivial]
  unfold abutmentref14_Sizes.f szP
  simp only [Option.bind_some]
  by_cases h1 : n < 1
  · rw [if_pos (.inl h1)]; exact evc_pos h1 none_
  · by_cases h2 : n > 1048576
    · rw [if_pos (.inr (.inl h2))]; exact evc_neg h1 (evc_pos h2 none_)
    · refine evc_neg h1 (evc_neg h2 ?_)
      by_cases h3 : e < 1
      · rw [if_pos (.inr (.inr h3)), decide_eq_true h3]; exact none_
      · rw [if_neg (by omega), decide_eq_false h3]
        have := rsizes_l0 e.toNat (by omega) n.toNat n.toNat [] (Nat.le_refl _) (by omega) (by simp; omega) (by omega)
        rw [Int.toNat_of_nonneg (by omega), Int.toNat_of_nonneg (by omega), List.nil_append] at this
        refine Ev.step (f := fun k => abutmentref14_Sizes.l0 k n e []) (fun k => ?_) this
        simp only [abutmentref14_Sizes.j0]
        rw [if_neg (by decide)]
theorem szP_len (n e : Int) : (szP n e).length ≤ 1048577 := by
  unfold szP
  split
  · exact Nat.zero_le _
  · have := szF_len n.toNat n.toNat e.toNat
    omega
theorem sizes_f (n e : Int) (h : e ≤ 9223372036854775807) : chunk_Sizes.f n e = some (szP n e) := by rw [chunk_Sizes.f, if_pos h]
theorem sameI_l0 (l : List Int) (hl : l.length ≤ 2000000) : ∀ n i : Nat, l.length - i = n → i ≤ l.length → Ev (fun k => abutmentref01_SameInts.l0 k l l (i : Int)) true := by
  intro n
  induction n with
  | zero =>
    intro i hn hi
    refine Ev.step (f := fun _ => some true) (fun k => ?_) (Ev.now _)
    simp only [abutmentref01_SameInts.l0]; rw [if_neg (by omega)]
  | succ n ih =>
    intro i hn hi
    refine Ev.step (f := fun k => abutmentref01_SameInts.l0 k l l ((i + 1 : Nat) : Int)) (fun k => ?_) (ih (i + 1) (by omega) (by omega))
    simp only [abutmentref01_SameInts.l0]
    rw [if_pos (by omega), if_pos (by omega), if_pos (by omega), if_pos trivial, wI _ (by omega) (by omega)]
    rfl
theorem sameI_ev (l : List Int) (hl : l.length ≤ 2000000) : Ev (fun k => abutmentref01_SameInts.f k l l) true := by
  refine Ev.congr (f := fun k => abutmentref01_SameInts.l0 k l l ((0 : Nat) : Int)) (fun k => ?_) (sameI_l0 l hl _ 0 rfl (Nat.zero_le _))
  unfold abutmentref01_SameInts.f
  rw [if_pos rfl]; rfl
theorem lives14_ev : Ev (fun k => abutmentlaw14_lives.f k) true := by
  refine Ev.of (k := 10) (fun k => abutmentlaw14_lives.mono k) ?_
  decide +kernel
end Go.Proofs.Ytbelgmfhaddhmaa.Pure
namespace Go.Proofs.Ytbelgmfhaddhmaa.Pure
open Go.RowKit Go.Proofs.Ytbelgmfhaddhmaa.Q Go.Proofs.Ytbelgmfhaddhmaa.V Go.Proofs.Ytbelgmfhaddhmaa.C Go.Proofs.YtbelgmfhaddhmaaW.PrintWords Go.Proofs.YtbelgmfhaddhmaaW.PrintLast Go.Proofs.YtbelgmfhaddhmaaW.PrintMore
set_option linter.unusedVariables false
/-! ### the reference's Value and Number -/
def vlI (c : Int) : Int := if hexI c = true then dgI c else 99
theorem value_all : ∀ n : Fin 256, abutmentref02_Value.f 10 (n.val : Int) = some (vlI (n.val : Int)) := by decide +kernel
theorem value2_ev (c : Int) (h : 0 ≤ c ∧ c ≤ 255) : Ev (fun k => abutmentref02_Value.f k c) (vlI c) := by
  have := value_all ⟨c.toNat, by omega⟩
  simp only [Int.toNat_of_nonneg h.1] at this
  exact Ev.of (k := 10) (fun k => abutmentref02_Value.mono c k) this
theorem vl_lt (c : Int) : vlI c < 16 ↔ hexI c = true := by
  unfold vlI
  by_cases h : hexI c = true
  · rw [if_pos h]; have := dg_hex h; exact ⟨fun _ => h, fun _ => by omega⟩
  · rw [if_neg h]; exact ⟨fun h2 => by omega, fun h2 => absurd h2 h⟩
def gv (a b : Int) : Int := a * 16 + dgI b
theorem gv_ge : ∀ (k : Nat) (l : List Int) (s c : Int), k ≤ l.length → 0 ≤ c → c ≤ s → (∀ x ∈ l, 0 ≤ dgI x) → c * 16 ^ k ≤ l.foldl gv s := by
  intro k
  induction k with
  | zero =>
    intro l
    induction l with
    | nil => intro s c _ h0 h _; simp; exact h
    | cons a l ih =>
      intro s c _ h0 h hd
      have ha := hd a (by simp)
      have := ih (gv s a) c (Nat.zero_le _) h0 (by unfold gv; omega) (fun x hx => hd x (by simp [hx]))
      exact this
  | succ k ih =>
    intro l s c hk h0 h hd
    cases l with
    | nil => simp at hk
    | cons a l =>
      have ha := hd a (by simp)
      have := ih l (gv s a) (c * 16) (by simpa using hk) (by omega) (by unfold gv; omega) (fun x hx => hd x (by simp [hx]))
      rw [List.foldl_cons]
      have e : c * 16 ^ (k + 1) = c * 16 * 16 ^ k := by rw [Int.pow_succ, Int.mul_assoc, Int.mul_comm (16 ^ k) 16]
      rw [e]
      exact this
theorem valL_gv (l : List Int) : valL l = l.foldl gv 0 := rfl
theorem valL_take (l : List Int) (i : Nat) (hd : ∀ x ∈ l, 0 ≤ dgI x) : 0 ≤ valL (l.take i) ∧ valL (l.take i) ≤ valL l := by
  have h0 := gv_ge 0 (l.take i) 0 0 (Nat.zero_le _) (by omega) (by omega) (fun x hx => hd x (List.mem_of_mem_take hx))
  have h1 := gv_ge 0 (l.drop i) (valL (l.take i)) (valL (l.take i)) (Nat.zero_le _) (by rw [valL_gv]; simpa using h0) (by omega) (fun x hx => hd x (List.mem_of_mem_drop hx))
  have e : valL l = (l.drop i).foldl gv (valL (l.take i)) := by
    rw [valL_gv, valL_gv, ← List.foldl_append, List.take_append_drop]
  rw [e]
  rw [valL_gv] at h1 ⊢
  constructor
  · simpa using h0
  · simpa using h1
theorem hex_dg {l : List Int} (h : l.all hexI = true) : ∀ x ∈ l, 0 ≤ dgI x := fun x hx => (dg_hex (List.all_eq_true.1 h x hx)).1
theorem numP_of {s : ByteArray} (h0 : s.size ≠ 0) (h : (bytesOf s).all hexI = true) : numP s = if valL (bytesOf s) > 2147483647 then (0, 5) else (valL (bytesOf s), 0) := by rw [numP, if_neg h0, if_pos h]
theorem bt_hex {s : ByteArray} (h : (bytesOf s).all hexI = true) (i : Nat) (hi : i < s.size) : hexI (bt s (i : Int)) = true := by
  have e := drop_at s i hi
  exact List.all_eq_true.1 h _ (List.mem_of_mem_drop (by rw [e]; exact List.mem_cons_self))
theorem number_l2 (s : ByteArray) (hs : s.size ≤ 19) (h0 : s.size ≠ 0) (hx : (bytesOf s).all hexI = true) : ∀ n i : Nat, s.size - i = n → i ≤ s.size → Ev (fun k => abutmentref02_Number.l2 k s 16 2147483647 (valL ((bytesOf s).take i)) (i : Int)) (numP s) := by
  intro n
  induction n with
  | zero =>
    intro i hn hi
    have e : (bytesOf s).take i = bytesOf s := List.take_of_length_le (by rw [bytesOf_length]; omega)
    have hv := valL_take (bytesOf s) i (hex_dg hx)
    rw [e] at hv ⊢
    rw [numP_of h0 hx]
    have eu : IntKind.u64.wrap 2147483647 = 2147483647 := u64_in _ (by omega) (by omega)
    by_cases c : valL (bytesOf s) > 2147483647
    · rw [if_pos c]
      refine Ev.step (f := fun _ => some (0, 5)) (fun k => ?_) (Ev.now _)
      simp only [abutmentref02_Number.l2]
      rw [if_neg (by omega), if_neg (by omega), eu, if_pos c]
    · have q : wrap64 (valL (bytesOf s)) = valL (bytesOf s) := wI _ (by omega) (by omega)
      rw [if_neg c]
      refine Ev.step (f := fun _ => some (valL (bytesOf s), 0)) (fun k => ?_) (Ev.now _)
      simp only [abutmentref02_Number.l2]
      rw [if_neg (by omega), if_neg (by omega), eu, if_neg c, q]
  | succ n ih =>
    intro i hn hi
    have hi' : i < s.size := by omega
    have hv := valL_take (bytesOf s) i (hex_dg hx)
    have hb := bt_hex hx i hi'
    have hd := dg_hex hb
    have q1 : (i : Int) < (s.size : Int) := by omega
    have q2 : (0 : Int) ≤ (i : Int) := by omega
    by_cases c : valL ((bytesOf s).take i) > 1152921504606846975
    · rw [numP_of h0 hx, if_pos (by omega)]
      refine Ev.step (f := fun _ => some (0, 5)) (fun k => ?_) (Ev.now _)
      simp only [abutmentref02_Number.l2]
      rw [if_pos q1, if_pos c]
    · have hsn := take_snoc s i hi'
      have hih := ih (i + 1) (by omega) (by omega)
      rw [hsn, valL_snoc] at hih
      obtain ⟨v, hve⟩ : ∃ v, v = valL ((bytesOf s).take i) := ⟨_, rfl⟩
      obtain ⟨d, hde⟩ : ∃ d, d = dgI (bt s (i : Int)) := ⟨_, rfl⟩
      have hvl : vlI (bt s (i : Int)) = d := by rw [vlI, if_pos hb, hde]
      rw [← hve] at hv c hih ⊢
      rw [← hde] at hd hih
      have p1 : IntKind.u64.wrap 16 = 16 := u64_in _ (by omega) (by omega)
      have p2 : IntKind.u64.wrap (v * 16) = v * 16 := u64_in _ (by omega) (by omega)
      have p3 : IntKind.u64.wrap d = d := u64_in _ (by omega) (by omega)
      have p4 : IntKind.u64.wrap (v * 16 + d) = v * 16 + d := u64_in _ (by omega) (by omega)
      have p5 : wrap64 ((i : Int) + 1) = ((i + 1 : Nat) : Int) := (wI _ (by omega) (by omega)).trans rfl
      refine Ev.step (f := fun k => (abutmentref02_Value.f k (bt s (i : Int))).bind fun t158 => abutmentref02_Number.l2 k s 16 2147483647 (IntKind.u64.wrap ((IntKind.u64.wrap (v * (IntKind.u64.wrap 16))) + (IntKind.u64.wrap t158))) (wrap64 ((i : Int) + 1))) (fun k => ?_) (Ev.bind (value2_ev _ (bt_range s _)) ?_)
      · simp only [abutmentref02_Number.l2]
        rw [if_pos q1, if_neg c, if_pos q2]
      · rw [hvl]
        simp only [p1, p2, p3, p4, p5]
        exact hih
theorem number_j2 (s : ByteArray) (h0 : s.size ≠ 0) (hx : (bytesOf s).all hexI = true) (hz : s.size > 19 → bt s 0 ≠ 48) : Ev (fun k => abutmentref02_Number.j2 k s 16 2147483647) (numP s) := by
  by_cases c : s.size > 19
  · have hbig : valL (bytesOf s) > 2147483647 := by
      have e := drop_at s 0 (by omega)
      rw [List.drop_zero] at e
      have h48 := hz c
      have hb := bt_hex hx 0 (by omega)
      have hd : 1 ≤ dgI (bt s 0) := by
        have h1 := (hexI_iff (bt s 0)).1 hb
        unfold dgI
        split
        · omega
        · split
          · omega
          · split
            · omega
            · omega
      have hl := bytesOf_length s
      rw [e, List.length_cons] at hl
      have hall := hex_dg hx
      rw [e] at hall
      have := gv_ge 8 ((bytesOf s).drop (0 + 1)) (gv 0 (bt s 0)) 1 (by omega) (by omega) (by unfold gv; omega) (fun x hx => hall x (List.mem_cons_of_mem _ hx))
      rw [valL_gv, e]
      rw [List.foldl_cons]
      have e8 : (1 : Int) * 16 ^ 8 = 4294967296 := by decide
      rw [e8] at this
      have e0 : ((0 : Nat) : Int) = 0 := rfl
      rw [e0]
      omega
    rw [numP_of h0 hx, if_pos hbig]
    refine Ev.step (f := fun _ => some (0, 5)) (fun k => ?_) (Ev.now _)
    simp only [abutmentref02_Number.j2]
    rw [if_pos (by omega)]
  · have hl := number_l2 s (by omega) h0 hx _ 0 rfl (Nat.zero_le _)
    refine Ev.step (f := fun k => abutmentref02_Number.l2 k s 16 2147483647 (valL ((bytesOf s).take 0)) ((0 : Nat) : Int)) (fun k => ?_) hl
    simp only [abutmentref02_Number.j2]
    rw [if_neg (by omega)]
    rfl
theorem number_l1 : ∀ (n : Nat) (s : ByteArray), s.size = n → s.size ≤ 140737488351232 → s.size ≠ 0 → (bytesOf s).all hexI = true → Ev (fun k => abutmentref02_Number.l1 k s 16 2147483647) (numP s) := by
  intro n
  induction n with
  | zero => intro s h _ h0; exact absurd h h0
  | succ n ih =>
    intro s h hs h0 hx
    by_cases c1 : s.size > 1
    · by_cases c2 : bt s 0 = 48
      · have hcb : bytesOf (s.extract 1 s.size) = (bytesOf s).drop 1 := by
          rw [bytesOf_cut]
          exact List.take_of_length_le (by rw [List.length_drop, bytesOf_length]; omega)
        have e := drop_at s 0 (by omega)
        rw [List.drop_zero] at e
        have hz : (s.extract 1 s.size).size = n := by rw [ByteArray.size_extract]; omega
        have hx2 : (bytesOf (s.extract 1 s.size)).all hexI = true := by
          rw [hcb, List.all_eq_true]
          exact fun x hxm => List.all_eq_true.1 hx x (List.mem_of_mem_drop hxm)
        have hv : valL (bytesOf (s.extract 1 s.size)) = valL (bytesOf s) := by
          rw [hcb, valL_gv, valL_gv]
          conv => rhs; rw [e, List.foldl_cons]
          have e0 : gv 0 (bt s ((0 : Nat) : Int)) = 0 := by
            have : bt s ((0 : Nat) : Int) = 48 := c2
            rw [this]; rfl
          rw [e0]
        have hnum : numP (s.extract 1 s.size) = numP s := by rw [numP_of (by omega) hx2, numP_of h0 hx, hv]
        have hih := ih (s.extract 1 s.size) hz (by omega) (by omega) hx2
        rw [hnum] at hih
        refine Ev.step (f := fun k => abutmentref02_Number.l1 k (s.extract 1 s.size) 16 2147483647) (fun k => ?_) hih
        simp only [abutmentref02_Number.l1]
        rw [if_pos (by omega), if_pos (by omega), if_pos c2, if_pos (by omega)]
      · refine Ev.step (f := fun k => abutmentref02_Number.j2 k s 16 2147483647) (fun k => ?_) (number_j2 s h0 hx (fun _ => c2))
        simp only [abutmentref02_Number.l1]
        rw [if_pos (by omega), if_pos (by omega), if_neg c2]
    · refine Ev.step (f := fun k => abutmentref02_Number.j2 k s 16 2147483647) (fun k => ?_) (number_j2 s h0 hx (fun h => by omega))
      simp only [abutmentref02_Number.l1]
      rw [if_neg (by omega)]
theorem number_l0 (s : ByteArray) (hs : s.size ≤ 140737488351232) (h0 : s.size ≠ 0) (hx : (bytesOf s).all hexI = true) : ∀ n i : Nat, s.size - i = n → i ≤ s.size → Ev (fun k => abutmentref02_Number.l0 k s 16 2147483647 (i : Int)) (numP s) := by
  intro n
  induction n with
  | zero =>
    intro i hn hi
    refine Ev.step (f := fun k => abutmentref02_Number.l1 k s 16 2147483647) (fun k => ?_) (number_l1 _ s rfl hs h0 hx)
    simp only [abutmentref02_Number.l0]
    rw [if_neg (by omega)]
  | succ n ih =>
    intro i hn hi
    have hb := bt_hex hx i (by omega)
    have hd := dg_hex hb
    have hvl : ¬ vlI (bt s (i : Int)) ≥ 16 := by rw [vlI, if_pos hb]; omega
    have q1 : (i : Int) < (s.size : Int) := by omega
    have q2 : (0 : Int) ≤ (i : Int) := by omega
    have hih := ih (i + 1) (by omega) (by omega)
    have p5 : wrap64 ((i : Int) + 1) = ((i + 1 : Nat) : Int) := (wI _ (by omega) (by omega)).trans rfl
    refine Ev.step (f := fun k => (abutmentref02_Value.f k (bt s (i : Int))).bind fun t157 => (if t157 ≥ 16 then (some (0, 3)) else (abutmentref02_Number.l0 k s 16 2147483647 ((i + 1 : Nat) : Int)))) (fun k => ?_) (Ev.bind (value2_ev _ (bt_range s _)) (ev_neg hvl hih))
    simp only [abutmentref02_Number.l0]
    rw [if_pos q1, if_pos q2, p5]
theorem number_ev (s : ByteArray) (hs : s.size ≤ 140737488351232) (h0 : s.size ≠ 0) (hx : (bytesOf s).all hexI = true) : Ev (fun k => abutmentref02_Number.f k s 16 2147483647) (numP s) := by
  unfold abutmentref02_Number.f
  exact ev_neg (by omega) (number_l0 s hs h0 hx _ 0 rfl (Nat.zero_le _))
/-! ### what stands behind the digits -/
def restOk (r : ByteArray) : Bool := (parsAll r []).isSome
/-- What a chunk's line tells. -/
def chkP (s : ByteArray) : Int × Int := if s.size = 0 then (0, 2) else if spn hexI s = 0 then (0, 3) else if restOk (ofs s (spn hexI s)) = true then numP (upto s (spn hexI s)) else (0, 3)
theorem idx_all : ∀ b : Fin 256, decide (Lib.indexByte [59, 32, 9] (b.val : Int).toNat.toUInt8 ≥ 0) = (decide ((b.val : Int) = 59) || decide ((b.val : Int) = 32) || decide ((b.val : Int) = 9)) := by decide +kernel
theorem idx_is (c : Int) (h : 0 ≤ c ∧ c ≤ 255) : strings_IndexByte.f (⟨#[59, 32, 9]⟩ : ByteArray) c = some (Lib.indexByte [59, 32, 9] c.toNat.toUInt8) ∧ decide (Lib.indexByte [59, 32, 9] c.toNat.toUInt8 ≥ 0) = (decide (c = 59) || decide (c = 32) || decide (c = 9)) := by
  have := idx_all ⟨c.toNat, by omega⟩
  simp only [Int.toNat_of_nonneg h.1] at this
  exact ⟨rfl, this⟩
theorem spn_cons (p : Int → Bool) (L : ByteArray) (x : Int) (l : List Int) (h : bytesOf L = x :: l) : spn p L = if p x = true then (l.takeWhile p).length + 1 else 0 := by
  rw [spn, h, List.takeWhile_cons]
  split <;> rfl
theorem extends_f (r : ByteArray) (hr : r.size ≤ 1000000) : chunk_extends.f r = some (restOk r) := by
  unfold chunk_extends.f
  by_cases h0 : r.size = 0
  · rw [if_pos ((nil_iff r).2 h0), restOk, parsAll_end r [] h0]; rfl
  · rw [if_neg (fun h => h0 ((nil_iff r).1 h)), if_pos (by omega)]
    obtain ⟨L, hL⟩ : ∃ L, L = (⟨#[120]⟩ : ByteArray) ++ r := ⟨_, rfl⟩
    have hLz : L.size = 1 + r.size := by rw [hL, ByteArray.size_append]; rfl
    have hLb : bytesOf L = 120 :: bytesOf r := by rw [hL, bytesOf_append]; rfl
    rw [← hL, params_Parse.f, if_pos (by omega)]
    simp only [Option.bind_some]
    obtain ⟨i1, i2⟩ := idx_is (bt r 0) (bt_range r 0)
    have q0 : (0 : Int) < (r.size : Int) := by omega
    rw [if_pos q0, i1]
    simp only [Option.bind_some, i2]
    have e := drop_at r 0 (by omega)
    rw [List.drop_zero] at e
    have hsp : spn tcI L = spn tcI r + 1 := by rw [spn_cons tcI L 120 _ hLb, if_pos (by decide)]; rfl
    have hof : ofs L (spn tcI r + 1) = ofs r (spn tcI r) := by
      apply str_ext
      rw [ofs, ofs, bytesOf_cut, bytesOf_cut, hLb, hLz, List.drop_succ_cons]
      congr 1
      omega
    have hp : (parseP L).2.2 = 0 ↔ (parsAll (ofs r (spn tcI r)) []).isSome = true := by
      unfold parseP
      rw [if_neg (by omega), hsp, if_neg (by omega), hof]
      cases parsAll (ofs r (spn tcI r)) [] with
      | none => simp
      | some l => simp
    have e00 : bt r ((0 : Nat) : Int) = bt r 0 := rfl
    rw [e00] at e
    by_cases hset : bt r 0 = 59 ∨ bt r 0 = 32 ∨ bt r 0 = 9
    · have ht : tcI (bt r 0) = false := by rcases hset with h | h | h <;> rw [h] <;> decide
      have hz : spn tcI r = 0 := by rw [spn_cons tcI r _ _ e, if_neg (by rw [ht]; simp)]
      rw [hz, ofs_zero] at hp
      have hd : (decide (bt r 0 = 59) || decide (bt r 0 = 32) || decide (bt r 0 = 9)) = true := by
        rcases hset with h | h | h <;> rw [h] <;> decide
      rw [hd]
      unfold restOk
      by_cases hc : (parseP L).2.2 = 0
      · rw [if_pos hc, hp.1 hc]
      · rw [if_neg hc]
        cases hq : (parsAll r []).isSome with
        | true => exact absurd (hp.2 hq) hc
        | false => rfl
    · have hd : (decide (bt r 0 = 59) || decide (bt r 0 = 32) || decide (bt r 0 = 9)) = false := by
        rw [decide_eq_false (fun h => hset (.inl h)), decide_eq_false (fun h => hset (.inr (.inl h))), decide_eq_false (fun h => hset (.inr (.inr h)))]; rfl
      have hbl : blI (bt r 0) = false := by
        simp only [blI, Bool.or_eq_false_iff, beq_eq_false_iff_ne]
        exact ⟨fun h => hset (.inr (.inl h)), fun h => hset (.inr (.inr h))⟩
      have haf : aft r = r := by rw [aft, spn_cons blI r _ _ e, if_neg (by rw [hbl]; simp), ofs_zero]
      have hbad : (oneP r).bad = true := by
        have : ¬ isAt (aft r) 59 := by rw [haf]; exact fun h => hset (.inl h.2)
        simp only [oneP, decide_eq_false this]
        rfl
      rw [hd, restOk, parsAll_bad r [] h0 hbad]
      split <;> rfl
theorem chunk_parse_f (s : ByteArray) (hs : s.size ≤ 1000000) : chunk_Parse.f s = some (chkP s) := by
  unfold chunk_Parse.f chkP
  have hle := spn_le hexI s
  by_cases h0 : s.size = 0
  · rw [if_pos ((nil_iff s).2 h0), if_pos h0]
  · rw [if_neg (fun h => h0 ((nil_iff s).1 h)), if_neg h0, chunk_split.f, if_pos (by omega)]
    simp only [Option.bind_some]
    have hu : (upto s (spn hexI s)).size = spn hexI s := upto_size _ _ hle
    by_cases hn : spn hexI s = 0
    · rw [if_pos ((nil_iff _).2 (by omega)), if_pos hn]
    · rw [if_neg (fun h => by have := (nil_iff _).1 h; omega), if_neg hn, extends_f _ (by rw [ofs_size _ _ hle]; omega)]
      simp only [Option.bind_some]
      by_cases hr : restOk (ofs s (spn hexI s)) = true
      · rw [if_pos hr, if_pos hr, digits_Hex.f, digits_number.f, if_pos ⟨rfl, rfl, by omega⟩]
        rfl
      · rw [if_neg hr, if_neg hr]
theorem upto_hex (s : ByteArray) : (bytesOf (upto s (spn hexI s))).all hexI = true := by
  have e : bytesOf (upto s (spn hexI s)) = (bytesOf s).takeWhile hexI := by
    rw [upto, bytesOf_cut, List.drop_zero, Nat.sub_zero, spn]
    have key : ∀ l : List Int, l.take (l.takeWhile hexI).length = l.takeWhile hexI := by
      intro l
      induction l with
      | nil => rfl
      | cons a l ih =>
        rw [List.takeWhile_cons]
        by_cases h : hexI a = true
        · rw [if_pos h, List.length_cons, List.take_succ_cons, ih]
        · rw [if_neg h]; rfl
    exact key _
  rw [e]
  exact List.all_takeWhile
/-! ### the reference's Parse -/
theorem rest_l1 (s : ByteArray) (n : Nat) (hn : 1 ≤ n) (hns : n ≤ s.size) (hs : s.size ≤ 1000000) (hx : (bytesOf (upto s n)).all hexI = true) : ∀ (m : Nat) (L : ByteArray) (acc : List (ByteArray × ByteArray)), L.size ≤ m → L.size ≤ 1000000 →
    Ev (fun k => abutmentref14_Parse.l1 k s (n : Int) L) (if (parsAll L acc).isSome = true then numP (upto s n) else (0, 3)) := by
  have hu : (upto s n).size = n := upto_size _ _ hns
  have fin : ∀ L : ByteArray, Ev (fun k => abutmentref14_Parse.j3 k s (n : Int) L false) (numP (upto s n)) := by
    intro L
    refine Ev.step (f := fun k => (abutmentref02_Number.f k (upto s n) 16 2147483647).bind fun bt165 => (some (bt165.1, bt165.2))) (fun k => ?_) (Ev.bind (number_ev (upto s n) (by omega) (by omega) hx) (Ev.now _))
    simp only [abutmentref14_Parse.j3]
    rw [if_neg (by decide), if_neg (by omega), if_pos (by omega), if_pos (by omega)]
    simp only [Int.toNat_natCast]
    rfl
  intro m
  induction m with
  | zero =>
    intro L acc h _
    rw [parsAll_end L acc (by omega), if_pos (show (some acc).isSome = true from rfl)]
    refine Ev.step (f := fun k => abutmentref14_Parse.j3 k s (n : Int) L false) (fun k => ?_) (fin L)
    simp only [abutmentref14_Parse.l1]
    rw [if_pos ((nil_iff L).2 (by omega))]
  | succ m ih =>
    intro L acc h hL
    by_cases h0 : L.size = 0
    · rw [parsAll_end L acc h0, if_pos (show (some acc).isSome = true from rfl)]
      refine Ev.step (f := fun k => abutmentref14_Parse.j3 k s (n : Int) L false) (fun k => ?_) (fin L)
      simp only [abutmentref14_Parse.l1]
      rw [if_pos ((nil_iff L).2 h0)]
    · have hpf : abutmentref08_Param.f L = some (paramP L) := by rw [abutmentref08_Param.f, if_pos (by omega)]
      obtain ⟨p1, p2⟩ := paramP_one L
      have hd : decide ((n : Int) > 0) = true := decide_eq_true (by omega)
      refine Ev.step (f := fun k => abutmentref14_Parse.j3 k s (n : Int) L true) (fun k => ?_) ?_
      · simp only [abutmentref14_Parse.l1]
        rw [if_neg (fun h => h0 ((nil_iff L).1 h)), hd]
      · cases hb : (oneP L).bad with
        | true =>
          rw [parsAll_bad L acc h0 hb]
          have hf : (paramP L).2.2.2 = false := by rw [p1, hb]; rfl
          refine Ev.step (f := fun _ => some (0, 3)) (fun k => ?_) (Ev.now _)
          simp only [abutmentref14_Parse.j3, hpf, Option.bind_some, hf]
          rw [if_pos trivial, if_neg (by decide)]
        | false =>
          have hz := (oneP_size L).2 hb
          have hih := ih (oneP L).left (acc ++ [((oneP L).name, (oneP L).value)]) (by omega) (by omega)
          rw [parsAll_step L acc h0 hb]
          have hpb := p2 hb
          refine Ev.step (f := fun k => abutmentref14_Parse.l1 k s (n : Int) (oneP L).left) (fun k => ?_) hih
          simp only [abutmentref14_Parse.j3, hpf, Option.bind_some, hpb]
          rw [if_pos trivial, if_pos trivial]
theorem rest_none (s L : ByteArray) (k0 : Nat) : Ev (fun k => abutmentref14_Parse.l1 k s 0 L) (0, 3) := by
  have j : Ev (fun k => abutmentref14_Parse.j3 k s 0 L false) (0, 3) := by
    refine Ev.step (f := fun _ => some (0, 3)) (fun k => ?_) (Ev.now _)
    simp only [abutmentref14_Parse.j3]
    rw [if_neg (by decide), if_pos trivial]
  refine Ev.step (f := fun k => abutmentref14_Parse.j3 k s 0 L false) (fun k => ?_) j
  simp only [abutmentref14_Parse.l1]
  split
  · rfl
  · rfl
theorem rparse14_j1 (s : ByteArray) (hs : s.size ≤ 1000000) (h0 : s.size ≠ 0) : Ev (fun k => abutmentref14_Parse.j1 k s ((spn hexI s : Nat) : Int)) (chkP s) := by
  have hle := spn_le hexI s
  refine Ev.step (f := fun k => abutmentref14_Parse.l1 k s ((spn hexI s : Nat) : Int) (ofs s (spn hexI s))) (fun k => ?_) ?_
  · simp only [abutmentref14_Parse.j1]
    rw [if_pos (by omega), if_pos (by omega)]
    simp only [Int.toNat_natCast]
    rfl
  · unfold chkP
    rw [if_neg h0]
    by_cases hn : spn hexI s = 0
    · rw [if_pos hn]
      have := rest_none s (ofs s (spn hexI s)) 0
      rw [hn] at this ⊢
      exact this
    · rw [if_neg hn]
      exact rest_l1 s _ (by omega) hle hs (upto_hex s) _ _ [] (Nat.le_refl _) (by rw [ofs_size _ _ hle]; omega)
theorem rparse14_l0 (s : ByteArray) (hs : s.size ≤ 1000000) (h0 : s.size ≠ 0) : ∀ n i : Nat, s.size - i = n → SpanAt hexI s i → Ev (fun k => abutmentref14_Parse.l0 k s (i : Int)) (chkP s) := by
  have hj := rparse14_j1 s hs h0
  intro n
  induction n with
  | zero =>
    intro i hn h
    have hi := h.1
    rw [h.over (by omega)] at hj
    refine Ev.step (f := fun k => abutmentref14_Parse.j1 k s (i : Int)) (fun k => ?_) hj
    simp only [abutmentref14_Parse.l0]
    rw [if_neg (by omega)]
  | succ n ih =>
    intro i hn h
    have hi : i < s.size := by omega
    have q1 : (i : Int) < (s.size : Int) := by omega
    have q2 : (0 : Int) ≤ (i : Int) := by omega
    have hih := fun h2 => ih (i + 1) (by omega) h2
    have hlt := vl_lt (bt s (i : Int))
    have p5 : wrap64 ((i : Int) + 1) = ((i + 1 : Nat) : Int) := (wI _ (by omega) (by omega)).trans rfl
    refine Ev.step (f := fun k => (abutmentref02_Value.f k (bt s (i : Int))).bind fun t159 => (if t159 < 16 then (abutmentref14_Parse.l0 k s ((i + 1 : Nat) : Int)) else (abutmentref14_Parse.j1 k s (i : Int)))) (fun k => ?_) (Ev.bind (value2_ev _ (bt_range s _)) ?_)
    · simp only [abutmentref14_Parse.l0]
      rw [if_pos q1, if_pos q2, p5]
    · cases hp : hexI (bt s (i : Int)) with
      | true => exact ev_pos (hlt.2 hp) (hih (h.step hi hp))
      | false =>
        rw [h.stop hi hp] at hj
        exact ev_neg (fun h2 => by rw [hlt.1 h2] at hp; cases hp) hj
theorem rparse14_ev (s : ByteArray) (hs : s.size ≤ 1000000) : Ev (fun k => abutmentref14_Parse.f k s) (chkP s) := by
  unfold abutmentref14_Parse.f
  by_cases h0 : s.size = 0
  · refine ev_pos ((nil_iff s).2 h0) ?_
    rw [chkP, if_pos h0]; exact Ev.now _
  · exact ev_neg (fun h => h0 ((nil_iff s).1 h)) (rparse14_l0 s hs h0 _ 0 rfl (SpanAt.zero _ _))
theorem ChunkParses : abutmentlaw14_ChunkParses.Pure := by
  intro a0 h0
  have hm : 0 ≤ mn (a0.size : Int) 1000 ∧ mn (a0.size : Int) 1000 ≤ (a0.size : Int) ∧ mn (a0.size : Int) 1000 ≤ 1000 := by unfold mn; split <;> omega
  obtain ⟨s, hs⟩ : ∃ s, s = a0.extract 0 (mn (a0.size : Int) 1000).toNat := ⟨_, rfl⟩
  have hz : s.size ≤ 1000 := by rw [hs, ByteArray.size_extract]; omega
  have he : Ev (fun k => abutmentlaw14_ChunkParses.f k a0) true := by
    unfold abutmentlaw14_ChunkParses.f
    rw [← hs, chunk_parse_f s (by omega)]
    refine ev_pos hm.1 (ev_pos hm.2.1 ?_)
    exact Ev.bind (Ev.now (chkP s)) (Ev.bind (rparse14_ev s (by omega)) (ev_pos rfl (ev_pos rfl (Ev.bind (f := fun _ t => some t) lives14_ev (Ev.now true)))))
  exact he.rounds
end Go.Proofs.Ytbelgmfhaddhmaa.Pure
