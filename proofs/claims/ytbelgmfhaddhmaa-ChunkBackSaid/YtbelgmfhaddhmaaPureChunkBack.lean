/- ChunkBack: a size comes back from its line; the sizes of chunks are together the whole, none is above each or below 1; the examples of the document hold: the plain law. -/
import Derived.Test.YtbelgmfhaddhmaaC6
import Derived.Test.YtbelgmfhaddhmaaPureC
import Derived.Test.YtbelgmfhaddhmaaPureU
import Derived.Test.YtbelgmfhaddhmaaExtI
namespace Go.Proofs.Ytbelgmfhaddhmaa.Pure
open Go.RowKit Go.Proofs.Ytbelgmfhaddhmaa.Q Go.Proofs.Ytbelgmfhaddhmaa.C Go.Proofs.YtbelgmfhaddhmaaW.PrintWords Go.Proofs.YtbelgmfhaddhmaaW.PrintLast Go.Proofs.YtbelgmfhaddhmaaW.PrintMore
set_option linter.unusedVariables false
theorem tw_all (p : Int → Bool) (l : List Int) (h : ∀ x ∈ l, p x = true) : l.takeWhile p = l := by
  induction l with
  | nil => rfl
  | cons a l ih => rw [List.takeWhile_cons, if_pos (h a (by simp)), ih (fun x hx => h x (by simp [hx]))]
theorem figs_nil (s : ByteArray) (h : s.size ≠ 0) : ¬ (s.toList = ([] : List UInt8)) := fun e => h ((nil_iff s).1 e)
theorem chunk_parse_figs (n : Nat) (h : n ≤ 2000) : chunk_Parse.f (strOfNums (figsL n)) = some ((n : Int), 0) := by
  have hl := figs_len n
  have hz := figs_size n
  obtain ⟨s, hs⟩ : ∃ s, s = strOfNums (figsL n) := ⟨_, rfl⟩
  have hb : bytesOf s = figsL n := by rw [hs]; exact figs_bytes n
  have hx : ∀ x ∈ figsL n, hexI x = true := figs_all _ (fun d hd => (sg_in d hd).2.2.2) n
  rw [← hs] at hz ⊢
  have hsp : spn hexI s = s.size := by rw [spn, hb, tw_all _ _ hx, hz]
  have e1 : upto s s.size = s := ByteArray.extract_zero_size
  have e2 : ofs s s.size = (⟨#[]⟩ : ByteArray) := ByteArray.extract_same
  have hn : numP s = ((n : Int), 0) := by
    have hv : valL (bytesOf s) = n := by rw [hb]; exact figs_val n (by omega)
    rw [numP, if_neg (by omega), if_pos (by rw [hb]; exact List.all_eq_true.2 hx), hv, if_neg (by omega)]
  have hsplit : chunk_split.f s = some (s, ⟨#[]⟩) := by rw [chunk_split.f, if_pos (by omega), hsp, e1, e2]
  have hext : chunk_extends.f (⟨#[]⟩ : ByteArray) = some true := by unfold chunk_extends.f; exact if_pos ((nil_iff _).2 rfl)
  have hhex : digits_Hex.f s 2147483647 = some ((n : Int), 0) := by
    rw [digits_Hex.f, digits_number.f, if_pos ⟨rfl, rfl, by omega⟩, hn]; rfl
  unfold chunk_Parse.f
  rw [if_neg (figs_nil s (by omega)), hsplit]
  simp only [Option.bind_some]
  rw [if_neg (figs_nil s (by omega)), hext]
  simp only [Option.bind_some]
  rw [if_pos trivial, hhex]
  rfl
theorem szF_in (e : Nat) (he : 1 ≤ e) : ∀ (f n : Nat), n ≤ f → 1 ≤ n → (∀ x ∈ szF f n e, 1 ≤ x ∧ x ≤ (e : Int)) ∧ (szF f n e).sum = (n : Int) := by
  intro f
  induction f with
  | zero => intro n h1 h2; omega
  | succ f ih =>
    intro n h1 h2
    rw [szF]
    by_cases c : e < n
    · rw [if_pos c]
      obtain ⟨h3, h4⟩ := ih (n - e) (by omega) (by omega)
      refine ⟨fun x hx => ?_, by rw [List.sum_cons, h4]; omega⟩
      rw [List.mem_cons] at hx
      rcases hx with rfl | hx
      · omega
      · exact h3 x hx
    · rw [if_neg c]
      refine ⟨fun x hx => ?_, by simp⟩
      rw [List.mem_singleton] at hx
      omega
theorem szP_in (n e : Int) (h0 : 0 ≤ n) (h : n ≤ 2000) : (∀ x ∈ szP n e, 1 ≤ x ∧ x ≤ e) ∧ ((szP n e).sum = n ∨ (e < 1 ∧ (szP n e).sum = 0)) := by
  unfold szP
  by_cases h1 : n < 1
  · rw [if_pos (.inl h1)]
    exact ⟨fun x hx => (by cases hx), .inl (by simp; omega)⟩
  · by_cases h3 : e < 1
    · rw [if_pos (.inr (.inr h3))]
      exact ⟨fun x hx => (by cases hx), .inr ⟨h3, rfl⟩⟩
    · rw [if_neg (by omega)]
      have := szF_in e.toNat (by omega) n.toNat n.toNat (Nat.le_refl _) (by omega)
      rw [Int.toNat_of_nonneg (by omega), Int.toNat_of_nonneg (by omega)] at this
      exact ⟨this.1, .inl this.2⟩
theorem sum_take (l : List Int) (i : Nat) (h : i < l.length) : (l.take (i + 1)).sum = (l.take i).sum + l[i] := by
  rw [List.take_succ_eq_append_getElem h, List.sum_append]; simp
theorem sum_le (l : List Int) (h : ∀ x ∈ l, 0 ≤ x ∧ x ≤ 1048576) : 0 ≤ l.sum ∧ l.sum ≤ 1048576 * l.length := by
  induction l with
  | nil => simp
  | cons a l ih =>
    have h1 := ih (fun x hx => h x (by simp [hx]))
    have h2 := h a (by simp)
    rw [List.sum_cons, List.length_cons]
    omega
theorem rdI_at (l : List Int) (i : Nat) (h : i < l.length) : rd l (i : Int) = l[i] := by
  simp [rd, List.getD_eq_getElem?_getD, List.getElem?_eq_getElem h]
theorem szP_big (n e : Int) (h0 : 0 ≤ n) (h : n ≤ 2000) : ∀ x ∈ szP n e, 0 ≤ x ∧ x ≤ 1048576 := by
  have key : ∀ (f m e : Nat), m ≤ 2000 → ∀ x ∈ szF f m e, 0 ≤ x ∧ x ≤ 1048576 := by
    intro f
    induction f with
    | zero => intro m e hm x hx; rw [szF, List.mem_singleton] at hx; omega
    | succ f ih =>
      intro m e hm x hx
      rw [szF] at hx
      split at hx
      · rw [List.mem_cons] at hx
        rcases hx with rfl | hx
        · omega
        · exact ih _ _ (by omega) x hx
      · rw [List.mem_singleton] at hx; omega
  unfold szP
  split
  · intro x hx; cases hx
  · exact key _ _ _ (by omega)
theorem back_l0' (n e : Int) (h0 : 0 ≤ n) (h : n ≤ 2000) : ∀ m i : Nat, (szP n e).length - i = m → i ≤ (szP n e).length → Ev (fun k => abutmentlaw14_ChunkBack.l0 k n e n 0 ((szP n e).take i).sum (szP n e) ((szP n e).length : Int) (i : Int)) true := by
  have hL := Ev.bind (f := fun _ t => some t) lives14_ev (Ev.now true)
  have hlen := szP_len n e
  obtain ⟨hin, hsum⟩ := szP_in n e h0 h
  have hbig := szP_big n e h0 h
  obtain ⟨l, hl⟩ : ∃ l, l = szP n e := ⟨_, rfl⟩
  rw [← hl] at hlen hin hsum hbig ⊢
  clear hl
  intro m
  induction m with
  | zero =>
    intro i hm hi
    have e0 : (l.take i).sum = l.sum := by rw [List.take_of_length_le (by omega)]
    rw [e0]
    refine Ev.step (f := fun k => (abutmentlaw14_lives.f k).bind fun t155 => (some t155)) (fun k => ?_) hL
    simp only [abutmentlaw14_ChunkBack.l0]
    rw [if_neg (by omega), if_pos trivial, if_pos trivial]
    by_cases c : l.sum = n
    · rw [if_pos c]
    · obtain ⟨h1, h2⟩ := hsum.resolve_left c
      rw [if_neg c, if_pos h1, if_pos h2]
  | succ m ih =>
    intro i hm hi
    have hi' : i < l.length := by omega
    have hr := rdI_at l i hi'
    have hx := hin l[i] (List.getElem_mem hi')
    have hs := sum_take l i hi'
    have hs1 := sum_le (l.take i) (fun x hx => hbig x (List.mem_of_mem_take hx))
    have hs2 := hbig l[i] (List.getElem_mem hi')
    have hs3 : (l.take i).length ≤ 1048577 := by rw [List.length_take]; omega
    have q1 : (i : Int) < (l.length : Int) := by omega
    have q2 : (0 : Int) ≤ (i : Int) := by omega
    have q3 : ¬ l[i] < 1 := by omega
    have q4 : ¬ l[i] > e := by omega
    have b1 : -9223372036854775808 ≤ (l.take i).sum + l[i] := by omega
    have b2 : (l.take i).sum + l[i] ≤ 9223372036854775807 := by omega
    have b3 : -9223372036854775808 ≤ (i : Int) + 1 := by omega
    have b4 : (i : Int) + 1 ≤ 9223372036854775807 := by omega
    have hih := ih (i + 1) (by omega) (by omega)
    have e2 : wrap64 ((l.take i).sum + l[i]) = (l.take (i + 1)).sum := (wI _ b1 b2).trans hs.symm
    have e1 : wrap64 ((i : Int) + 1) = ((i + 1 : Nat) : Int) := (wI _ b3 b4).trans rfl
    refine Ev.step (f := fun k => abutmentlaw14_ChunkBack.l0 k n e n 0 (l.take (i + 1)).sum l (l.length : Int) ((i + 1 : Nat) : Int)) (fun k => ?_) hih
    simp only [abutmentlaw14_ChunkBack.l0, hr]
    rw [if_pos q1, if_pos q2, if_pos q1, if_neg q3, if_neg q4, e1, e2]
theorem ChunkBack : abutmentlaw14_ChunkBack.Pure := by
  intro a0 a1 h0 h1
  simp [Lit.wf] at h0 h1
  have hL := Ev.bind (f := fun _ t => some t) lives14_ev (Ev.now true)
  have jt : Ev (fun k => abutmentlaw14_ChunkBack.j0 k a0 a1 true) true := by
    refine Ev.step (f := fun k => (abutmentlaw14_lives.f k).bind fun t136 => (some t136)) (fun k => ?_) hL
    simp only [abutmentlaw14_ChunkBack.j0]
    rw [if_pos trivial]
  have jf : 0 ≤ a0 → a0 ≤ 2000 → Ev (fun k => abutmentlaw14_ChunkBack.j0 k a0 a1 false) true := by
    intro g0 g1
    have hfl := figs_len a0.toNat
    have hfz := figs_size a0.toNat
    obtain ⟨s, hs⟩ : ∃ s, s = strOfNums (figsL a0.toNat) := ⟨_, rfl⟩
    rw [← hs] at hfz
    have hline : chunk_Line.f a0 = some (s ++ (⟨#[13, 10]⟩ : ByteArray)) := by rw [line_f a0 (by omega), lineS, if_neg (by omega), hs]
    have hz : (s ++ (⟨#[13, 10]⟩ : ByteArray)).size = s.size + 2 := by rw [ByteArray.size_append]; rfl
    have q0 : (0 : Int) ≤ (s.size : Int) := by omega
    have q1 : (s.size : Int) ≤ ((s ++ (⟨#[13, 10]⟩ : ByteArray)).size : Int) := by omega
    have q2 : ¬ ((s ++ (⟨#[13, 10]⟩ : ByteArray)).size : Int) < 3 := by omega
    have q3 : a1 ≤ 9223372036854775807 := by omega
    have ew : wrap64 (((s ++ (⟨#[13, 10]⟩ : ByteArray)).size : Int) - 2) = (s.size : Int) := by rw [hz, wI _ (by omega) (by omega)]; omega
    have hc := cut_at (s ++ (⟨#[13, 10]⟩ : ByteArray)) s ⟨#[13, 10]⟩ (Pure.bytesOf_append _ _) s.size rfl
    have hcu : (s ++ (⟨#[13, 10]⟩ : ByteArray)).extract 0 s.size = s := hc.1
    have hco : (s ++ (⟨#[13, 10]⟩ : ByteArray)).extract s.size (s ++ (⟨#[13, 10]⟩ : ByteArray)).size = ⟨#[13, 10]⟩ := hc.2
    have hp := chunk_parse_figs a0.toNat (by omega)
    rw [← hs, Int.toNat_of_nonneg g0] at hp
    have hl := back_l0' a0 a1 g0 g1 _ 0 rfl (Nat.zero_le _)
    have j1 : Ev (fun k => abutmentlaw14_ChunkBack.j1 k a0 a1 (s ++ (⟨#[13, 10]⟩ : ByteArray)) false) true := by
      refine Ev.step (f := fun k => abutmentlaw14_ChunkBack.l0 k a0 a1 a0 0 ((szP a0 a1).take 0).sum (szP a0 a1) ((szP a0 a1).length : Int) ((0 : Nat) : Int)) (fun k => ?_) hl
      simp only [abutmentlaw14_ChunkBack.j1, ew, Int.toNat_natCast, hcu, hp, sizes_f a0 a1 q3, Option.bind_some]
      rw [if_neg (by decide), if_pos q0, if_pos q1]
      rfl
    refine Ev.step (f := fun k => abutmentlaw14_ChunkBack.j1 k a0 a1 (s ++ (⟨#[13, 10]⟩ : ByteArray)) false) (fun k => ?_) j1
    simp only [abutmentlaw14_ChunkBack.j0, hline, Option.bind_some, ew, Int.toNat_natCast, hco]
    rw [if_neg (by decide), if_neg q2, if_pos q0, if_pos q1]
    have e13 : ((⟨#[13, 10]⟩ : ByteArray).toList != ([13, 10] : List UInt8)) = false := by
      rw [Lib.toList_data]; rfl
    rw [e13]
  have he : Ev (fun k => abutmentlaw14_ChunkBack.f k a0 a1) true := by
    unfold abutmentlaw14_ChunkBack.f
    by_cases c : a0 < 0
    · exact evc_pos c jt
    · refine evc_neg c ?_
      by_cases c2 : a0 > 2000
      · rw [decide_eq_true c2]; exact jt
      · rw [decide_eq_false c2]; exact jf (by omega) (by omega)
  exact he.rounds
end Go.Proofs.Ytbelgmfhaddhmaa.Pure
