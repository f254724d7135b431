/- ExtK; ExtL; ExtM; ExtN; ExtO; ExtP of this seat, merged. -/
import Derived.Test.YtbelgmfhaddhmaaExtG
import Derived.Test.YtbelgmfhaddhmaaV0
/- The contract of params.value. -/
namespace Go.Proofs.Ytbelgmfhaddhmaa.Q
open Go.RowKit Go.Proofs.YtbelgmfhaddhmaaW.PrintWords
set_option linter.unusedVariables false

theorem CurL.eff {w w' : World} {g ga : Nat} {L : ByteArray} (h : CurL w g L) (hE : Eff ga w w') (hne : g ≠ ga) : CurL w' g L := by
  obtain ⟨s, n, hg, hr⟩ := h
  exact ⟨s, n, (hE.block g (blk_lt hg) hne).trans hg, hr⟩
theorem ofs_zero (L : ByteArray) : ofs L 0 = L := by rw [ofs, ByteArray.extract_zero_size]
theorem empty_yes {s : ByteArray} (h : s.size = 0) : s.toList.isEmpty = true := by
  rw [Lib.toList_data, List.isEmpty_iff]
  exact List.eq_nil_of_length_eq_zero (by rw [data_length]; exact h)
theorem empty_no {s : ByteArray} (h : ¬ s.size = 0) : s.toList.isEmpty = false := by
  rw [Lib.toList_data, List.isEmpty_eq_false_iff]
  intro e
  have := data_length s
  rw [e] at this
  exact h this.symm
/-- What is left behind blanks. -/
def aft (L : ByteArray) : ByteArray := ofs L (spn blI L)
def isAt (L : ByteArray) (b : Int) : Prop := 0 < L.size ∧ bt L 0 = b
instance (L : ByteArray) (b : Int) : Decidable (isAt L b) := by unfold isAt; infer_instance
/-- A parameter's value, whether it may be, and what is left. -/
def valP (L : ByteArray) : ByteArray × Bool × ByteArray :=
  if isAt (aft L) 61 then
    (if spn tcI (aft (ofs (aft L) 1)) = 0 then (qs (aft (ofs (aft L) 1)), (Q.quoted (aft (ofs (aft L) 1))).isSome, ofs (aft (ofs (aft L) 1)) (qn (aft (ofs (aft L) 1))))
     else (upto (aft (ofs (aft L) 1)) (spn tcI (aft (ofs (aft L) 1))), true, ofs (aft (ofs (aft L) 1)) (spn tcI (aft (ofs (aft L) 1)))))
  else (⟨#[]⟩, true, L)
theorem skip_aft (w : World) (g : Nat) (L : ByteArray) (h : CurL w g L) : Calls Try.prog 56 #[.pointer (some ⟨g, 0, none⟩)] w fun e w' => e = .returned (.int .i64 ((spn blI L : Nat) : Int)) ∧ CurL w' g (aft L) ∧ Eff g w w' := skip_any w g L h
set_option maxHeartbeats 4000000 in
theorem value_any (w : World) (g : Nat) (L : ByteArray) (h : CurL w g L) : Calls Try.prog 96 #[.pointer (some ⟨g, 0, none⟩)] w fun e w' => e = .returned (.tuple #[.string (valP L).1, .bool (valP L).2.1]) ∧ CurL w' g (valP L).2.2 ∧ Eff g w w' := by
  have hz := h.size
  have hgl := h.lt
  by_cases hc : isAt (aft L) 61
  · obtain ⟨M, hM⟩ : ∃ M, aft (ofs (aft L) 1) = M := ⟨_, rfl⟩
    have HM := Lib.hid hM
    by_cases ht : spn tcI M = 0
    · have hv : valP L = (qs M, (Q.quoted M).isSome, ofs M (qn M)) := by rw [valP, if_pos hc, hM, if_pos ht]
      rw [hv]
      obtain ⟨T, hT⟩ : ∃ T, T = upto M 0 := ⟨_, rfl⟩
      have hem : T.toList.isEmpty = true := empty_yes (by rw [hT, upto, ByteArray.size_extract]; omega)
      have HTK : Aside0 (∀ w, CurL w g M → Calls Try.prog 51 #[.pointer (some ⟨g, 0, none⟩)] w fun e w' => e = .returned (.string T) ∧ CurL w' g M ∧ Eff g w w') := ⟨fun w h => by
        have := token_any w g M h
        rw [ht, ofs_zero, ← hT] at this
        exact this⟩
      have HX := Aside0.mk hc
      have HH := Aside0.mk h
      clear hc hv h ht hT hM
      go_enter Try.func96, Try.ntmps96
      go_wp2_with fail
      refine (left_any _ _ _ HH.out).mono ?_
      rintro e w1 ⟨rfl, hb⟩
      have HB1 := Aside0.mk hb
      have hs1 := hb.size
      clear hb
      go_wp2_with fail
      refine (new_any _ hz _).mono ?_
      rintro e w2 ⟨rfl, hc, hb⟩
      obtain ⟨ga, hga⟩ : ∃ ga, ga = w1.heap.size := ⟨_, rfl⟩
      rw [← hga] at hc ⊢
      have hag : w.heap.size ≤ ga := by omega
      have hne : g ≠ ga := by omega
      have HC2 := Aside0.mk hc
      have HB2 := Aside0.mk (below_step HB1.out hb)
      clear hb hc hga hs1
      go_wp2_with fail
      refine (skip_aft _ _ _ HC2.out).mono ?_
      rintro e w3 ⟨rfl, hc, hE⟩
      have HC3 := Aside0.mk hc
      have HB3 := Aside0.mk (hE.below HB2.out HB2.out.size hag)
      clear hc hE
      go_wp2_with fail
      refine (byte_yes _ _ _ _ HC3.out HX.out.1 HX.out.2).mono ?_
      rintro e w4 ⟨rfl, hc, hE⟩
      have HB4 := Aside0.mk (hE.below HB3.out HB3.out.size hag)
      clear hc hE
      go_wp2_with fail
      refine (skip_aft _ _ _ (HH.out.below HB4.out)).mono ?_
      rintro e w5 ⟨rfl, hc, hE⟩
      have HC5 := Aside0.mk hc
      have HE5 := Aside0.mk ((Eff.of_below HB4.out).trans hE)
      clear hc hE
      go_wp2_with fail
      refine (byte_yes _ _ _ _ HC5.out HX.out.1 HX.out.2).mono ?_
      rintro e w6 ⟨rfl, hc, hE⟩
      have HC6 := Aside0.mk hc
      have HE6 := Aside0.mk (HE5.out.trans hE)
      clear hc hE
      go_wp2_with fail
      refine (skip_aft _ _ _ HC6.out).mono ?_
      rintro e w7 ⟨rfl, hc, hE⟩
      rw [HM.out] at hc
      have HC7 := Aside0.mk hc
      have HE7 := Aside0.mk (HE6.out.trans hE)
      clear hc hE
      go_wp2_with fail
      refine (HTK.out _ HC7.out).mono ?_
      rintro e w8 ⟨rfl, hc, hE⟩
      have HC8 := Aside0.mk hc
      have HE8 := Aside0.mk (HE7.out.trans hE)
      clear hc hE
      go_wp2_with fail
      refine (quoted_any _ _ _ HC8.out).mono ?_
      rintro e w9 ⟨rfl, hc, hE⟩
      have HC9 := Aside0.mk hc
      have HE9 := Aside0.mk (HE8.out.trans hE)
      clear hc hE
      go_wp2
      go_ret2
      exact ⟨rfl, HC9.out, HE9.out⟩
    · have hv : valP L = (upto M (spn tcI M), true, ofs M (spn tcI M)) := by rw [valP, if_pos hc, hM, if_neg ht]
      rw [hv]
      obtain ⟨T, hT⟩ : ∃ T, T = upto M (spn tcI M) := ⟨_, rfl⟩
      have hem : T.toList.isEmpty = false := empty_no (by rw [hT, upto_size _ _ (spn_le _ _)]; exact ht)
      have HTK : Aside0 (∀ w, CurL w g M → Calls Try.prog 51 #[.pointer (some ⟨g, 0, none⟩)] w fun e w' => e = .returned (.string T) ∧ CurL w' g (ofs M (spn tcI M)) ∧ Eff g w w') := ⟨fun w h => by
        have := token_any w g M h
        rw [← hT] at this
        exact this⟩
      rw [← hT]
      have HX := Aside0.mk hc
      have HH := Aside0.mk h
      clear hc hv h ht hT hM
      go_enter Try.func96, Try.ntmps96
      go_wp2_with fail
      refine (left_any _ _ _ HH.out).mono ?_
      rintro e w1 ⟨rfl, hb⟩
      have HB1 := Aside0.mk hb
      have hs1 := hb.size
      clear hb
      go_wp2_with fail
      refine (new_any _ hz _).mono ?_
      rintro e w2 ⟨rfl, hc, hb⟩
      obtain ⟨ga, hga⟩ : ∃ ga, ga = w1.heap.size := ⟨_, rfl⟩
      rw [← hga] at hc ⊢
      have hag : w.heap.size ≤ ga := by omega
      have hne : g ≠ ga := by omega
      have HC2 := Aside0.mk hc
      have HB2 := Aside0.mk (below_step HB1.out hb)
      clear hb hc hga hs1
      go_wp2_with fail
      refine (skip_aft _ _ _ HC2.out).mono ?_
      rintro e w3 ⟨rfl, hc, hE⟩
      have HC3 := Aside0.mk hc
      have HB3 := Aside0.mk (hE.below HB2.out HB2.out.size hag)
      clear hc hE
      go_wp2_with fail
      refine (byte_yes _ _ _ _ HC3.out HX.out.1 HX.out.2).mono ?_
      rintro e w4 ⟨rfl, hc, hE⟩
      have HB4 := Aside0.mk (hE.below HB3.out HB3.out.size hag)
      clear hc hE
      go_wp2_with fail
      refine (skip_aft _ _ _ (HH.out.below HB4.out)).mono ?_
      rintro e w5 ⟨rfl, hc, hE⟩
      have HC5 := Aside0.mk hc
      have HE5 := Aside0.mk ((Eff.of_below HB4.out).trans hE)
      clear hc hE
      go_wp2_with fail
      refine (byte_yes _ _ _ _ HC5.out HX.out.1 HX.out.2).mono ?_
      rintro e w6 ⟨rfl, hc, hE⟩
      have HC6 := Aside0.mk hc
      have HE6 := Aside0.mk (HE5.out.trans hE)
      clear hc hE
      go_wp2_with fail
      refine (skip_aft _ _ _ HC6.out).mono ?_
      rintro e w7 ⟨rfl, hc, hE⟩
      rw [HM.out] at hc
      have HC7 := Aside0.mk hc
      have HE7 := Aside0.mk (HE6.out.trans hE)
      clear hc hE
      go_wp2_with fail
      refine (HTK.out _ HC7.out).mono ?_
      rintro e w8 ⟨rfl, hc, hE⟩
      have HC8 := Aside0.mk hc
      have HE8 := Aside0.mk (HE7.out.trans hE)
      clear hc hE
      go_wp2
      go_ret2
      exact ⟨rfl, HC8.out, HE8.out⟩
  · have hv : valP L = (⟨#[]⟩, true, L) := by rw [valP, if_neg hc]
    rw [hv]
    have HX := Aside0.mk hc
    have HH := Aside0.mk h
    clear hc hv h
    go_enter Try.func96, Try.ntmps96
    go_wp2_with fail
    refine (left_any _ _ _ HH.out).mono ?_
    rintro e w1 ⟨rfl, hb⟩
    have HB1 := Aside0.mk hb
    have hs1 := hb.size
    clear hb
    go_wp2_with fail
    refine (new_any _ hz _).mono ?_
    rintro e w2 ⟨rfl, hc, hb⟩
    obtain ⟨ga, hga⟩ : ∃ ga, ga = w1.heap.size := ⟨_, rfl⟩
    rw [← hga] at hc ⊢
    have hag : w.heap.size ≤ ga := by omega
    have hne : g ≠ ga := by omega
    have HC2 := Aside0.mk hc
    have HB2 := Aside0.mk (below_step HB1.out hb)
    clear hb hc hga hs1
    go_wp2_with fail
    refine (skip_aft _ _ _ HC2.out).mono ?_
    rintro e w3 ⟨rfl, hc, hE⟩
    have HC3 := Aside0.mk hc
    have HB3 := Aside0.mk (hE.below HB2.out HB2.out.size hag)
    clear hc hE
    go_wp2_with fail
    refine (byte_no _ _ _ _ HC3.out (fun h0 hb => HX.out ⟨h0, hb⟩)).mono ?_
    rintro e w4 ⟨rfl, hb⟩
    have HB4 := Aside0.mk (below_step HB3.out hb)
    clear hb
    go_wp2
    go_ret2
    exact ⟨rfl, HH.out.below HB4.out, Eff.of_below HB4.out⟩
end Go.Proofs.Ytbelgmfhaddhmaa.Q
/- The closure of params.Parse: one parameter more. -/
namespace Go.Proofs.Ytbelgmfhaddhmaa.Q
open Go.RowKit Go.Proofs.YtbelgmfhaddhmaaW.PrintWords
set_option linter.unusedVariables false

/-- Pairs of texts, as cells. -/
def prs (l : List (ByteArray × ByteArray)) : List Value := l.flatMap fun p => [.string p.1, .string p.2]
theorem prs_snoc (l : List (ByteArray × ByteArray)) (a b : ByteArray) : prs (l ++ [(a, b)]) = prs l ++ [.string a, .string b] := by simp [prs]
theorem prs_reps (l : List (ByteArray × ByteArray)) : Reps (fun (p : ByteArray × ByteArray) c => c = [.string p.1, .string p.2]) 2 l (prs l) := by
  have h : ∀ l : List (ByteArray × ByteArray), Reps (fun (p : ByteArray × ByteArray) c => c = [.string p.1, .string p.2]) 2 l.reverse (prs l.reverse) := by
    intro l
    induction l with
    | nil => exact Reps.none _ _
    | cons p l ih =>
      rw [List.reverse_cons]
      have e : prs (l.reverse ++ [p]) = prs l.reverse ++ [.string p.1, .string p.2] := prs_snoc _ p.1 p.2
      rw [e]
      exact ih.snoc rfl rfl
  have := h l.reverse
  rwa [List.reverse_reverse] at this
/-- What Parse's variables hold: the cursor, bad, and the list. -/
structure PSt (W : World) (B gc gb gl g : Nat) (L : ByteArray) (bad : Bool) (v : Value) (l : List (ByteArray × ByteArray)) : Prop where
  cc : W.heap[gc]? = some (.cells #[.pointer (some ⟨g, 0, none⟩)] 48 (0, 0))
  cb : W.heap[gb]? = some (.cells #[.bool bad] 4 (0, 0))
  cl : W.heap[gl]? = some (.cells #[v] 62 (0, 0))
  cur : CurL W g L
  own : W.ownsRow B 70 2 v l.length (prs l)
theorem ne_types {w : World} {g g' : Nat} {t t' : TypeId} {cs cs' : Array Value} (h : w.heap[g]? = some (.cells cs t (0, 0))) (h' : w.heap[g']? = some (.cells cs' t' (0, 0))) (hne : t ≠ t') : g ≠ g' := blk_ne h h' hne
theorem CurL.cells {w : World} {g : Nat} {L : ByteArray} (h : CurL w g L) : ∃ cs, w.heap[g]? = some (.cells cs 87 (0, 0)) := by
  obtain ⟨s, n, hg, _⟩ := h
  exact ⟨_, hg⟩
theorem own_eff70 {w w' : World} {B n g size t : Nat} {v : Value} {xs : List Value} {cs : Array Value} (h : w.ownsRow B 70 size v n xs) (hE : ∀ k, k < w.heap.size → k ≠ g → w'.heap[k]? = w.heap[k]?) (hg : w.heap[g]? = some (.cells cs t (0, 0))) (ht : t ≠ 70) : w'.ownsRow B 70 size v n xs :=
  own_move h (fun k hk => by
    obtain ⟨cells, hc⟩ := own_typed h k hk
    refine hE k (blk_lt hc) (fun e => ?_)
    subst e
    rw [hc] at hg
    injection hg with hg
    injection hg with _ h3
    exact ht h3.symm)
theorem PSt.below {W W' : World} {B gc gb gl g : Nat} {L : ByteArray} {bad : Bool} {v : Value} {l : List (ByteArray × ByteArray)} (h : PSt W B gc gb gl g L bad v l) (hb : Below W.heap.size W W') : PSt W' B gc gb gl g L bad v l :=
  ⟨(hb.block _ (blk_lt h.cc)).trans h.cc, (hb.block _ (blk_lt h.cb)).trans h.cb, (hb.block _ (blk_lt h.cl)).trans h.cl, h.cur.below hb, pw_own_below h.own hb⟩
theorem PSt.eff {W W' : World} {B gc gb gl g : Nat} {L L' : ByteArray} {bad : Bool} {v : Value} {l : List (ByteArray × ByteArray)} (h : PSt W B gc gb gl g L bad v l) (hE : Eff g W W') (hc : CurL W' g L') : PSt W' B gc gb gl g L' bad v l := by
  obtain ⟨cs, hg⟩ := h.cur.cells
  exact ⟨(hE.block _ (blk_lt h.cc) (ne_types h.cc hg (by decide))).trans h.cc, (hE.block _ (blk_lt h.cb) (ne_types h.cb hg (by decide))).trans h.cb, (hE.block _ (blk_lt h.cl) (ne_types h.cl hg (by decide))).trans h.cl, hc, own_eff70 h.own hE.block hg (by decide)⟩
theorem CurL.set {w : World} {g gx t : Nat} {L : ByteArray} {cs : Array Value} (h : CurL w g L) (hx : w.heap[gx]? = some (.cells cs t (0, 0))) (ht : t ≠ 87) (j : Nat) (u : Value) : CurL (w.setCell ⟨gx, j, none⟩ u) g L := by
  obtain ⟨s, n, hg, hr⟩ := h
  exact ⟨s, n, blk_far hg (fun e => ne_types hx hg ht e.symm) u, hr⟩
theorem PSt.setb {W : World} {B gc gb gl g : Nat} {L : ByteArray} {bad : Bool} {v : Value} {l : List (ByteArray × ByteArray)} (h : PSt W B gc gb gl g L bad v l) (b : Bool) : PSt (W.setCell ⟨gb, 0, none⟩ (.bool b)) B gc gb gl g L b v l :=
  ⟨blk_far h.cc (ne_types h.cc h.cb (by decide)) _, blk_set h.cb 0 (.bool b), blk_far h.cl (ne_types h.cl h.cb (by decide)) _, h.cur.set h.cb (by decide) 0 _, own_eff70 h.own (fun k _ hk => Below.heap_setCell W ⟨gb, 0, none⟩ _ k hk) h.cb (by decide)⟩
/-- Behind an append to the list, and its store. -/
theorem PSt.setl {W W1 : World} {B gc gb gl g : Nat} {L : ByteArray} {bad : Bool} {v v1 : Value} {l l1 : List (ByteArray × ByteArray)} (h : PSt W B gc gb gl g L bad v l) (hg : W.grownBy W1 v.ownBlock) (ho : W1.ownsRow B 70 2 v1 l1.length (prs l1)) : PSt (W1.setCell ⟨gl, 0, none⟩ v1) B gc gb gl g L bad v1 l1 := by
  have no : ∀ {k t : Nat} {cs : Array Value}, W.heap[k]? = some (.cells cs t (0, 0)) → t ≠ 70 → some k ≠ v.ownBlock := by
    intro k t cs hk ht e
    obtain ⟨cells, hc⟩ := own_typed h.own k e.symm
    rw [hc] at hk
    injection hk with hk
    injection hk with _ h3
    exact ht h3.symm
  have c1 := blk_grown h.cc hg (no h.cc (by decide))
  have b1 := blk_grown h.cb hg (no h.cb (by decide))
  have l1' := blk_grown h.cl hg (no h.cl (by decide))
  have q1 : CurL W1 g L := by
    obtain ⟨s, n, hk, hr⟩ := h.cur
    exact ⟨s, n, blk_grown hk hg (no hk (by decide)), hr⟩
  exact ⟨blk_far c1 (ne_types c1 l1' (by decide)) _, blk_far b1 (ne_types b1 l1' (by decide)) _, blk_set l1' 0 v1, q1.set l1' (by decide) 0 _, own_eff70 ho (fun k _ hk => Below.heap_setCell W1 ⟨gl, 0, none⟩ _ k hk) l1' (by decide)⟩
theorem PSt.cells {W : World} {B gc gb gl g : Nat} {L : ByteArray} {bad : Bool} {v : Value} {l : List (ByteArray × ByteArray)} (h : PSt W B gc gb gl g L bad v l) :
    W.cell? ⟨gc, 0, none⟩ = some (.pointer (some ⟨g, 0, none⟩)) ∧ W.cell? ⟨gb, 0, none⟩ = some (.bool bad) ∧ W.frozen? ⟨gb, 0, none⟩ = false ∧ W.cell? ⟨gl, 0, none⟩ = some v ∧ W.frozen? ⟨gl, 0, none⟩ = false :=
  ⟨(blk_cell h.cc 0).trans rfl, (blk_cell h.cb 0).trans rfl, blk_frozen h.cb 0, (blk_cell h.cl 0).trans rfl, blk_frozen h.cl 0⟩
/-- One parameter: its name, its value, what is left, and whether all is well. -/
structure One where
  name : ByteArray
  value : ByteArray
  left : ByteArray
  bad : Bool
def oneP (L : ByteArray) : One :=
  let L2 := if isAt (aft L) 59 then ofs (aft L) 1 else aft L
  let L3 := aft L2
  let k := spn tcI L3
  let v := valP (ofs L3 k)
  ⟨lowS' (upto L3 k), v.1, v.2.2, !(decide (isAt (aft L) 59)) || (decide (k = 0)) || !v.2.1⟩
  where lowS' (s : ByteArray) : ByteArray := strOfNums ((bytesOf s).map lowI)
end Go.Proofs.Ytbelgmfhaddhmaa.Q
/- The walk of params.Parse's closure. -/
namespace Go.Proofs.Ytbelgmfhaddhmaa.Q
open Go.RowKit Go.Proofs.YtbelgmfhaddhmaaW.PrintWords
set_option linter.unusedVariables false

theorem byte_uni (w : World) (g : Nat) (L : ByteArray) (b : Int) (h : CurL w g L) : Calls Try.prog 54 #[.pointer (some ⟨g, 0, none⟩), .int .u8 b] w fun e w' => e = .returned (.bool (decide (isAt L b))) ∧ CurL w' g (if isAt L b then ofs L 1 else L) ∧ Eff g w w' := by
  by_cases hc : isAt L b
  · rw [decide_eq_true hc, if_pos hc]; exact byte_yes w g L b h hc.1 hc.2
  · rw [decide_eq_false hc, if_neg hc]
    exact (byte_no w g L b h (fun h0 hb => hc ⟨h0, hb⟩)).mono (fun e w' ⟨h1, h2⟩ => ⟨h1, h.below h2, Eff.of_below h2⟩)
theorem skip_aft2 (w : World) (g : Nat) (L : ByteArray) (h : CurL w g L) : Calls Try.prog 56 #[.pointer (some ⟨g, 0, none⟩)] w fun e w' => ∃ x, e = .returned (.int .i64 x) ∧ CurL w' g (aft L) ∧ Eff g w w' :=
  (skip_aft w g L h).mono (fun e w' h => ⟨_, h⟩)
theorem inf70 : (Try.prog.info? 70).map (fun i => (i.zero, i.size, i.bytes)) = some (some (.agg #[.string ⟨#[]⟩, .string ⟨#[]⟩]), 2, 32) := by kernel_rfl
theorem lower_any (s : ByteArray) (hs : s.size ≤ 140737488351232) (w : World) : Calls Try.prog 23 #[.string s] w fun e w' => e = .returned (.string (oneP.lowS' s)) ∧ Below w.heap.size w w' :=
  octet_Lower.calls s _ w (by unfold octet_Lower.f; rw [if_pos (by omega)]; rfl)
theorem lower_empty (s : ByteArray) : (oneP.lowS' s).size = s.size := by
  simp only [oneP.lowS', strOfNums]
  show (List.map _ (List.map lowI (bytesOf s))).toArray.size = _
  rw [List.size_toArray, List.length_map, List.length_map, bytesOf_length]
theorem PSt.setp {W : World} {B gc gb gl g gp : Nat} {L : ByteArray} {bad : Bool} {v : Value} {l : List (ByteArray × ByteArray)} {cs : Array Value} (h : PSt W B gc gb gl g L bad v l) (hp : W.heap[gp]? = some (.cells cs 70 (0, 0))) (hn : ∀ k, v.ownBlock = some k → k ≠ gp) (j : Nat) (u : Value) : PSt (W.setCell ⟨gp, j, none⟩ u) B gc gb gl g L bad v l :=
  ⟨blk_far h.cc (ne_types h.cc hp (by decide)) _, blk_far h.cb (ne_types h.cb hp (by decide)) _, blk_far h.cl (ne_types h.cl hp (by decide)) _, h.cur.set hp (by decide) j u, own_move h.own (fun k hk => Below.heap_setCell W ⟨gp, j, none⟩ u k (hn k hk))⟩
theorem PSt.grownl {W W1 : World} {B gc gb gl g : Nat} {L : ByteArray} {bad : Bool} {v : Value} {l : List (ByteArray × ByteArray)} (h : PSt W B gc gb gl g L bad v l) (hg : W.grownBy W1 v.ownBlock) : W1.heap[gl]? = some (.cells #[v] 62 (0, 0)) := by
  refine blk_grown h.cl hg (fun e => ?_)
  obtain ⟨cells, hc⟩ := own_typed h.own gl e.symm
  have hk := h.cl
  rw [hc] at hk
  injection hk with hk
  injection hk with _ h3
  exact absurd h3 (by decide)
theorem PSt.ge {W : World} {B gc gb gl g : Nat} {L : ByteArray} {bad : Bool} {v : Value} {l : List (ByteArray × ByteArray)} (h : PSt W B gc gb gl g L bad v l) (hg : B ≤ g) : B ≤ W.heap.size := Nat.le_of_lt (Nat.lt_of_le_of_lt hg h.cur.lt)
set_option maxHeartbeats 4000000 in
set_option maxRecDepth 100000 in
theorem one_any (W0 W : World) (B gc gb gl g : Nat) (L : ByteArray) (v : Value) (l : List (ByteArray × ByteArray)) (h : PSt W B gc gb gl g L false v l) (hB0 : Below B W0 W) (hB : B ≤ W.heap.size) (hg : B ≤ g) (hgb : B ≤ gb) (hgl : B ≤ gl) (hl : (l.length + 1) * 32 ≤ 140737488355328) :
    Calls Try.prog 95 #[.pointer (some ⟨gc, 0, none⟩), .pointer (some ⟨gb, 0, none⟩), .pointer (some ⟨gl, 0, none⟩)] W fun e w' => e = .returned (.bool (!(oneP L).bad && !(oneP L).left.toList.isEmpty)) ∧ ∃ v', PSt w' B gc gb gl g (oneP L).left (oneP L).bad v' (l ++ [((oneP L).name, (oneP L).value)]) ∧ Below B W0 w' := by
  obtain ⟨d, hd⟩ : ∃ d, d = decide (isAt (aft L) 59) := ⟨_, rfl⟩
  obtain ⟨L2, hL2⟩ : ∃ L2, L2 = (if isAt (aft L) 59 then ofs (aft L) 1 else aft L) := ⟨_, rfl⟩
  obtain ⟨L3, hL3⟩ : ∃ L3, L3 = aft L2 := ⟨_, rfl⟩
  obtain ⟨k, hk⟩ : ∃ k, k = spn tcI L3 := ⟨_, rfl⟩
  obtain ⟨N, hN⟩ : ∃ N, N = oneP.lowS' (upto L3 k) := ⟨_, rfl⟩
  obtain ⟨V, hV⟩ : ∃ V, V = (valP (ofs L3 k)).1 := ⟨_, rfl⟩
  obtain ⟨ok, hok⟩ : ∃ ok, ok = (valP (ofs L3 k)).2.1 := ⟨_, rfl⟩
  obtain ⟨L5, hL5⟩ : ∃ L5, L5 = (valP (ofs L3 k)).2.2 := ⟨_, rfl⟩
  have hone : oneP L = ⟨N, V, L5, !d || decide (k = 0) || !ok⟩ := by
    rw [hN, hV, hL5, hd, hok, hk, hL3, hL2]; rfl
  rw [hone]
  have hNe0 : N.toList.isEmpty = decide (k = 0) := by
    have hz : N.size = k := by rw [hN, lower_empty, upto_size _ _ (by rw [hk]; exact spn_le _ _)]
    by_cases h0 : k = 0
    · rw [decide_eq_true h0]; exact empty_yes (by omega)
    · rw [decide_eq_false h0]; exact empty_no (by omega)
  have HS1 : Aside0 (∀ w, CurL w g L → Calls Try.prog 56 #[.pointer (some ⟨g, 0, none⟩)] w fun e w' => ∃ x, e = .returned (.int .i64 x) ∧ CurL w' g (aft L) ∧ Eff g w w') := ⟨fun w => skip_aft2 w g L⟩
  have HS2 : Aside0 (∀ w, CurL w g (aft L) → Calls Try.prog 54 #[.pointer (some ⟨g, 0, none⟩), .int .u8 59] w fun e w' => e = .returned (.bool d) ∧ CurL w' g L2 ∧ Eff g w w') := ⟨fun w h => by rw [hd, hL2]; exact byte_uni w g _ 59 h⟩
  have HS3 : Aside0 (∀ w, CurL w g L2 → Calls Try.prog 56 #[.pointer (some ⟨g, 0, none⟩)] w fun e w' => ∃ x, e = .returned (.int .i64 x) ∧ CurL w' g L3 ∧ Eff g w w') := ⟨fun w h => by rw [hL3]; exact skip_aft2 w g L2 h⟩
  have HS4 : Aside0 (∀ w, CurL w g L3 → Calls Try.prog 51 #[.pointer (some ⟨g, 0, none⟩)] w fun e w' => e = .returned (.string (upto L3 k)) ∧ CurL w' g (ofs L3 k) ∧ Eff g w w') := ⟨fun w h => by rw [hk]; exact token_any w g L3 h⟩
  have HS5 : Aside0 (∀ w, CurL w g L3 → ∀ w', Calls Try.prog 23 #[.string (upto L3 k)] w' fun e w'' => e = .returned (.string N) ∧ Below w'.heap.size w' w'') := ⟨fun w h w' => by
    rw [hN]
    refine lower_any _ ?_ w'
    have := h.size
    rw [upto, ByteArray.size_extract]; omega⟩
  have HS6 : Aside0 (∀ w, CurL w g (ofs L3 k) → Calls Try.prog 96 #[.pointer (some ⟨g, 0, none⟩)] w fun e w' => e = .returned (.tuple #[.string V, .bool ok]) ∧ CurL w' g L5 ∧ Eff g w w') := ⟨fun w h => by rw [hV, hok, hL5]; exact value_any w g _ h⟩
  obtain ⟨kz, hkz⟩ : ∃ kz, kz = decide (k = 0) := ⟨_, rfl⟩
  rw [← hkz] at hNe0 ⊢
  clear hd hL2 hL3 hk hN hV hok hL5 hone hkz
  obtain ⟨A, c, hv⟩ := own_slice h.own
  subst hv
  obtain ⟨hcc, hcb, hfb, hcl, hfl⟩ := h.cells
  have H := Aside0.mk h
  have HB0 := Aside0.mk hB0
  clear h hB0
  cases d with
  | true =>
    cases ok with
    | true =>
      cases kz with
      | true =>
        have hNe : N.toList.isEmpty = true := hNe0
        clear hNe0
        go_enter Try.func95, Try.ntmps95
        go_wp2_with fail
        refine (HS1.out _ H.out.cur).mono ?_
        rintro e w1 ⟨x, rfl, hc, hE⟩
        have H1 := Aside0.mk (H.out.eff hE hc)
        have HB1 := Aside0.mk (hE.below HB0.out hB hg)
        clear hc hE hcc hcb hfb hcl hfl
        obtain ⟨hcc, hcb, hfb, hcl, hfl⟩ := H1.out.cells
        have hB1 : B ≤ w1.heap.size := Nat.le_of_lt (Nat.lt_of_le_of_lt hg H1.out.cur.lt)
        go_wp2_with fail
        refine (HS2.out _ H1.out.cur).mono ?_
        rintro e w2 ⟨rfl, hc, hE⟩
        have H2 := Aside0.mk ((H1.out.eff hE hc).setb false)
        have HB2 := Aside0.mk ((hE.below HB1.out hB1 hg).setCell (p := ⟨gb, 0, none⟩) hgb (.bool false))
        have hfb2 := (H1.out.eff hE hc).cells.2.2.1
        have hcb2 := (H1.out.eff hE hc).cells.2.1
        clear hc hE hcc hcb hfb hcl hfl
        obtain ⟨hcc, hcb, hfb, hcl, hfl⟩ := H2.out.cells
        obtain ⟨z2, hz2⟩ : ∃ z2, w2.setCell ⟨gb, 0, none⟩ (.bool false) = z2 := ⟨_, rfl⟩
        rw [hz2] at hcc hcb hfb hcl hfl H2 HB2
        go_wp2_with fail
        refine (HS3.out _ H2.out.cur).mono ?_
        rintro e w3 ⟨x3, rfl, hc, hE⟩
        have H3 := Aside0.mk (H2.out.eff hE hc)
        have HB3 := Aside0.mk (hE.below HB2.out (H2.out.ge hg) hg)
        clear hc hE hcc hcb hfb hcl hfl hz2 hfb2 hcb2
        obtain ⟨hcc, hcb, hfb, hcl, hfl⟩ := H3.out.cells
        go_wp2_with fail
        refine (HS4.out _ H3.out.cur).mono ?_
        rintro e w4 ⟨rfl, hc, hE⟩
        have H4 := Aside0.mk (H3.out.eff hE hc)
        have HB4 := Aside0.mk (hE.below HB3.out (H3.out.ge hg) hg)
        clear hc hE hcc hcb hfb hcl hfl
        go_wp2_with fail
        refine (HS5.out _ H3.out.cur _).mono ?_
        rintro e w5 ⟨rfl, hb⟩
        have H5 := Aside0.mk (H4.out.below hb)
        have HB5 := Aside0.mk (below_then HB4.out (H4.out.ge hg) hb)
        clear hb
        go_upto_region 5 with (fail)
        obtain ⟨gp, hgp⟩ : ∃ gp, w5.heap.size = gp := ⟨_, rfl⟩
        have hBgp : B ≤ gp := by rw [← hgp]; exact H5.out.ge hg
        have HNP : Aside0 (∀ k, (Value.slice A l.length c).ownBlock = some k → k ≠ gp) := ⟨fun k hk e => by
          have := own_lt H5.out.own k hk
          omega⟩
        have H6 := Aside0.mk (H5.out.below (below_alloc (Below.refl w5.heap.size w5) (.cells #[.string N, .string ⟨#[]⟩] 70 (0, 0))))
        have HB6 := Aside0.mk (HB5.out.alloc (H5.out.ge hg) (.cells #[.string N, .string ⟨#[]⟩] 70 (0, 0)))
        have HP6 := Aside0.mk (blk_new w5 (.cells #[.string N, .string ⟨#[]⟩] 70 (0, 0)))
        obtain ⟨z6, hz6⟩ : ∃ z6, w5.alloc (.cells #[.string N, .string ⟨#[]⟩] 70 (0, 0)) = z6 := ⟨_, rfl⟩
        rw [hz6] at H6 HB6 HP6 ⊢
        rw [hgp] at HP6 ⊢
        clear hz6 hgp
        obtain ⟨hcc, hcb, hfb, hcl, hfl⟩ := H6.out.cells
        have hp0 : z6.cell? ⟨gp, 0, none⟩ = some (.string N) := (blk_cell HP6.out 0).trans rfl
        have H7 := Aside0.mk (H6.out.setb true)
        have HB7 := Aside0.mk (HB6.out.setCell (p := ⟨gb, 0, none⟩) hgb (.bool true))
        have HP7 := Aside0.mk (blk_far HP6.out (p := ⟨gb, 0, none⟩) (ne_types HP6.out H6.out.cb (by decide)) (.bool true))
        obtain ⟨z7, hz7⟩ : ∃ z7, z6.setCell ⟨gb, 0, none⟩ (.bool true) = z7 := ⟨_, rfl⟩
        rw [hz7] at H7 HB7 HP7
        obtain ⟨kcc, kcb, kfb, kcl, kfl⟩ := H7.out.cells
        go_wp2_with fail
        refine (HS6.out _ H7.out.cur).mono ?_
        rintro e w8 ⟨rfl, hc, hE⟩
        have H8 := Aside0.mk (H7.out.eff hE hc)
        have HB8 := Aside0.mk (hE.below HB7.out (H7.out.ge hg) hg)
        have HP8 : Aside0 (w8.heap[gp]? = some (.cells #[.string N, .string ⟨#[]⟩] 70 (0, 0))) := ⟨by
          obtain ⟨cs, hq⟩ := H7.out.cur.cells
          exact (hE.block _ (blk_lt HP7.out) (ne_types HP7.out hq (by decide))).trans HP7.out⟩
        clear hc hE hcc hcb hfb hcl hfl kcc kcb kfb kcl kfl hz7 hp0
        have hp1 : w8.cell? ⟨gp, 1, none⟩ = some (.string ⟨#[]⟩) := (blk_cell HP8.out 1).trans rfl
        have hf1 := blk_frozen HP8.out 1
        have HBgp : Aside0 (B ≤ gp) := ⟨hBgp⟩
        have H9 := Aside0.mk (H8.out.setp HP8.out HNP.out 1 (.string V))
        have HB9 := Aside0.mk (HB8.out.setCell (p := ⟨gp, 1, none⟩) hBgp (.string V))
        have HP9 : Aside0 ((w8.setCell ⟨gp, 1, none⟩ (.string V)).heap[gp]? = some (.cells #[.string N, .string V] 70 (0, 0))) := ⟨blk_set HP8.out 1 (.string V)⟩
        obtain ⟨z9, hz9⟩ : ∃ z9, w8.setCell ⟨gp, 1, none⟩ (.string V) = z9 := ⟨_, rfl⟩
        rw [hz9] at H9 HB9 HP9
        obtain ⟨hcc, hcb, hfb, hcl, hfl⟩ := H9.out.cells
        have H10 := H9
        have HB10 := HB9
        have HP10 := HP9
        have hq0 : z9.cell? ⟨gp, 0, none⟩ = some (.string N) := (blk_cell HP10.out 0).trans rfl
        have hq1 : z9.cell? ⟨gp, 1, none⟩ = some (.string V) := (blk_cell HP10.out 1).trans rfl
        go_wp2_with (at_builtin; refine print_append_cells (w0 := W0) B rfl (.tmp 34) (.tmp 36) 62 70 _ 2 32 rfl Try.underlying62 inf70 rfl (by decide) (by decide) _ l.length (prs l) [.string N, .string V] rfl rfl rfl (by intro u hu; simp at hu; rcases hu with rfl | rfl <;> rfl) H10.out.own HB10.out (H10.out.ge hg) hl ?_)
        intro v1 w11 hown hB11 hgr hat
        obtain ⟨A1, c1, hv1⟩ := own_slice hown
        subst hv1
        have hg11 := H10.out.grownl hgr
        have hcl11 : w11.cell? ⟨gl, 0, none⟩ = some (.slice A l.length c) := (blk_cell hg11 0).trans rfl
        have hfl11 := blk_frozen hg11 0
        have H12 := Aside0.mk (H10.out.setl (l1 := l ++ [(N, V)]) hgr (by rw [List.length_append, List.length_singleton, prs_snoc]; exact hown))
        have HB12 := Aside0.mk (hB11.setCell (p := ⟨gl, 0, none⟩) hgl (.slice A1 (l.length + 1) c1))
        clear hg11 hown hB11 hgr hat hcc hcb hfb hcl hfl  hq0 hq1 hz9  hp1 hf1
        obtain ⟨z12, hz12⟩ : ∃ z12, w11.setCell ⟨gl, 0, none⟩ (.slice A1 (l.length + 1) c1) = z12 := ⟨_, rfl⟩
        rw [hz12] at H12 HB12
        obtain ⟨hcc, hcb, hfb, hcl, hfl⟩ := H12.out.cells
        go_wp2
        go_ret
        exact ⟨rfl, _, H12.out, HB12.out⟩
      | false =>
        have hNe : N.toList.isEmpty = false := hNe0
        clear hNe0
        go_enter Try.func95, Try.ntmps95
        go_wp2_with fail
        refine (HS1.out _ H.out.cur).mono ?_
        rintro e w1 ⟨x, rfl, hc, hE⟩
        have H1 := Aside0.mk (H.out.eff hE hc)
        have HB1 := Aside0.mk (hE.below HB0.out hB hg)
        clear hc hE hcc hcb hfb hcl hfl
        obtain ⟨hcc, hcb, hfb, hcl, hfl⟩ := H1.out.cells
        have hB1 : B ≤ w1.heap.size := Nat.le_of_lt (Nat.lt_of_le_of_lt hg H1.out.cur.lt)
        go_wp2_with fail
        refine (HS2.out _ H1.out.cur).mono ?_
        rintro e w2 ⟨rfl, hc, hE⟩
        have H2 := Aside0.mk ((H1.out.eff hE hc).setb false)
        have HB2 := Aside0.mk ((hE.below HB1.out hB1 hg).setCell (p := ⟨gb, 0, none⟩) hgb (.bool false))
        have hfb2 := (H1.out.eff hE hc).cells.2.2.1
        have hcb2 := (H1.out.eff hE hc).cells.2.1
        clear hc hE hcc hcb hfb hcl hfl
        obtain ⟨hcc, hcb, hfb, hcl, hfl⟩ := H2.out.cells
        obtain ⟨z2, hz2⟩ : ∃ z2, w2.setCell ⟨gb, 0, none⟩ (.bool false) = z2 := ⟨_, rfl⟩
        rw [hz2] at hcc hcb hfb hcl hfl H2 HB2
        go_wp2_with fail
        refine (HS3.out _ H2.out.cur).mono ?_
        rintro e w3 ⟨x3, rfl, hc, hE⟩
        have H3 := Aside0.mk (H2.out.eff hE hc)
        have HB3 := Aside0.mk (hE.below HB2.out (H2.out.ge hg) hg)
        clear hc hE hcc hcb hfb hcl hfl hz2 hfb2 hcb2
        obtain ⟨hcc, hcb, hfb, hcl, hfl⟩ := H3.out.cells
        go_wp2_with fail
        refine (HS4.out _ H3.out.cur).mono ?_
        rintro e w4 ⟨rfl, hc, hE⟩
        have H4 := Aside0.mk (H3.out.eff hE hc)
        have HB4 := Aside0.mk (hE.below HB3.out (H3.out.ge hg) hg)
        clear hc hE hcc hcb hfb hcl hfl
        go_wp2_with fail
        refine (HS5.out _ H3.out.cur _).mono ?_
        rintro e w5 ⟨rfl, hb⟩
        have H5 := Aside0.mk (H4.out.below hb)
        have HB5 := Aside0.mk (below_then HB4.out (H4.out.ge hg) hb)
        clear hb
        go_upto_region 5 with (fail)
        obtain ⟨gp, hgp⟩ : ∃ gp, w5.heap.size = gp := ⟨_, rfl⟩
        have hBgp : B ≤ gp := by rw [← hgp]; exact H5.out.ge hg
        have HNP : Aside0 (∀ k, (Value.slice A l.length c).ownBlock = some k → k ≠ gp) := ⟨fun k hk e => by
          have := own_lt H5.out.own k hk
          omega⟩
        have H6 := Aside0.mk (H5.out.below (below_alloc (Below.refl w5.heap.size w5) (.cells #[.string N, .string ⟨#[]⟩] 70 (0, 0))))
        have HB6 := Aside0.mk (HB5.out.alloc (H5.out.ge hg) (.cells #[.string N, .string ⟨#[]⟩] 70 (0, 0)))
        have HP6 := Aside0.mk (blk_new w5 (.cells #[.string N, .string ⟨#[]⟩] 70 (0, 0)))
        obtain ⟨z6, hz6⟩ : ∃ z6, w5.alloc (.cells #[.string N, .string ⟨#[]⟩] 70 (0, 0)) = z6 := ⟨_, rfl⟩
        rw [hz6] at H6 HB6 HP6 ⊢
        rw [hgp] at HP6 ⊢
        clear hz6 hgp
        obtain ⟨hcc, hcb, hfb, hcl, hfl⟩ := H6.out.cells
        have hp0 : z6.cell? ⟨gp, 0, none⟩ = some (.string N) := (blk_cell HP6.out 0).trans rfl
        have H7 := Aside0.mk (H6.out.setb false)
        have HB7 := Aside0.mk (HB6.out.setCell (p := ⟨gb, 0, none⟩) hgb (.bool false))
        have HP7 := Aside0.mk (blk_far HP6.out (p := ⟨gb, 0, none⟩) (ne_types HP6.out H6.out.cb (by decide)) (.bool false))
        obtain ⟨z7, hz7⟩ : ∃ z7, z6.setCell ⟨gb, 0, none⟩ (.bool false) = z7 := ⟨_, rfl⟩
        rw [hz7] at H7 HB7 HP7
        obtain ⟨kcc, kcb, kfb, kcl, kfl⟩ := H7.out.cells
        go_wp2_with fail
        refine (HS6.out _ H7.out.cur).mono ?_
        rintro e w8 ⟨rfl, hc, hE⟩
        have H8 := Aside0.mk (H7.out.eff hE hc)
        have HB8 := Aside0.mk (hE.below HB7.out (H7.out.ge hg) hg)
        have HP8 : Aside0 (w8.heap[gp]? = some (.cells #[.string N, .string ⟨#[]⟩] 70 (0, 0))) := ⟨by
          obtain ⟨cs, hq⟩ := H7.out.cur.cells
          exact (hE.block _ (blk_lt HP7.out) (ne_types HP7.out hq (by decide))).trans HP7.out⟩
        clear hc hE hcc hcb hfb hcl hfl kcc kcb kfb kcl kfl hz7 hp0
        have hp1 : w8.cell? ⟨gp, 1, none⟩ = some (.string ⟨#[]⟩) := (blk_cell HP8.out 1).trans rfl
        have hf1 := blk_frozen HP8.out 1
        have HBgp : Aside0 (B ≤ gp) := ⟨hBgp⟩
        have H9 := Aside0.mk (H8.out.setp HP8.out HNP.out 1 (.string V))
        have HB9 := Aside0.mk (HB8.out.setCell (p := ⟨gp, 1, none⟩) hBgp (.string V))
        have HP9 : Aside0 ((w8.setCell ⟨gp, 1, none⟩ (.string V)).heap[gp]? = some (.cells #[.string N, .string V] 70 (0, 0))) := ⟨blk_set HP8.out 1 (.string V)⟩
        obtain ⟨z9, hz9⟩ : ∃ z9, w8.setCell ⟨gp, 1, none⟩ (.string V) = z9 := ⟨_, rfl⟩
        rw [hz9] at H9 HB9 HP9
        obtain ⟨hcc, hcb, hfb, hcl, hfl⟩ := H9.out.cells
        have H10 := H9
        have HB10 := HB9
        have HP10 := HP9
        have hq0 : z9.cell? ⟨gp, 0, none⟩ = some (.string N) := (blk_cell HP10.out 0).trans rfl
        have hq1 : z9.cell? ⟨gp, 1, none⟩ = some (.string V) := (blk_cell HP10.out 1).trans rfl
        go_wp2_with (at_builtin; refine print_append_cells (w0 := W0) B rfl (.tmp 34) (.tmp 36) 62 70 _ 2 32 rfl Try.underlying62 inf70 rfl (by decide) (by decide) _ l.length (prs l) [.string N, .string V] rfl rfl rfl (by intro u hu; simp at hu; rcases hu with rfl | rfl <;> rfl) H10.out.own HB10.out (H10.out.ge hg) hl ?_)
        intro v1 w11 hown hB11 hgr hat
        obtain ⟨A1, c1, hv1⟩ := own_slice hown
        subst hv1
        have hg11 := H10.out.grownl hgr
        have hcl11 : w11.cell? ⟨gl, 0, none⟩ = some (.slice A l.length c) := (blk_cell hg11 0).trans rfl
        have hfl11 := blk_frozen hg11 0
        have H12 := Aside0.mk (H10.out.setl (l1 := l ++ [(N, V)]) hgr (by rw [List.length_append, List.length_singleton, prs_snoc]; exact hown))
        have HB12 := Aside0.mk (hB11.setCell (p := ⟨gl, 0, none⟩) hgl (.slice A1 (l.length + 1) c1))
        clear hg11 hown hB11 hgr hat hcc hcb hfb hcl hfl  hq0 hq1 hz9  hp1 hf1
        obtain ⟨z12, hz12⟩ : ∃ z12, w11.setCell ⟨gl, 0, none⟩ (.slice A1 (l.length + 1) c1) = z12 := ⟨_, rfl⟩
        rw [hz12] at H12 HB12
        obtain ⟨hcc, hcb, hfb, hcl, hfl⟩ := H12.out.cells
        go_wp2_with fail
        refine (done_any _ _ _ H12.out.cur).mono ?_
        rintro e w13 ⟨rfl, hb⟩
        have H13 := Aside0.mk (H12.out.below hb)
        have HB13 := Aside0.mk (below_then HB12.out (H12.out.ge hg) hb)
        clear hb
        go_wp2
        go_ret
        exact ⟨rfl, _, H13.out, HB13.out⟩
    | false =>
      cases kz with
      | true =>
        have hNe : N.toList.isEmpty = true := hNe0
        clear hNe0
        go_enter Try.func95, Try.ntmps95
        go_wp2_with fail
        refine (HS1.out _ H.out.cur).mono ?_
        rintro e w1 ⟨x, rfl, hc, hE⟩
        have H1 := Aside0.mk (H.out.eff hE hc)
        have HB1 := Aside0.mk (hE.below HB0.out hB hg)
        clear hc hE hcc hcb hfb hcl hfl
        obtain ⟨hcc, hcb, hfb, hcl, hfl⟩ := H1.out.cells
        have hB1 : B ≤ w1.heap.size := Nat.le_of_lt (Nat.lt_of_le_of_lt hg H1.out.cur.lt)
        go_wp2_with fail
        refine (HS2.out _ H1.out.cur).mono ?_
        rintro e w2 ⟨rfl, hc, hE⟩
        have H2 := Aside0.mk ((H1.out.eff hE hc).setb false)
        have HB2 := Aside0.mk ((hE.below HB1.out hB1 hg).setCell (p := ⟨gb, 0, none⟩) hgb (.bool false))
        have hfb2 := (H1.out.eff hE hc).cells.2.2.1
        have hcb2 := (H1.out.eff hE hc).cells.2.1
        clear hc hE hcc hcb hfb hcl hfl
        obtain ⟨hcc, hcb, hfb, hcl, hfl⟩ := H2.out.cells
        obtain ⟨z2, hz2⟩ : ∃ z2, w2.setCell ⟨gb, 0, none⟩ (.bool false) = z2 := ⟨_, rfl⟩
        rw [hz2] at hcc hcb hfb hcl hfl H2 HB2
        go_wp2_with fail
        refine (HS3.out _ H2.out.cur).mono ?_
        rintro e w3 ⟨x3, rfl, hc, hE⟩
        have H3 := Aside0.mk (H2.out.eff hE hc)
        have HB3 := Aside0.mk (hE.below HB2.out (H2.out.ge hg) hg)
        clear hc hE hcc hcb hfb hcl hfl hz2 hfb2 hcb2
        obtain ⟨hcc, hcb, hfb, hcl, hfl⟩ := H3.out.cells
        go_wp2_with fail
        refine (HS4.out _ H3.out.cur).mono ?_
        rintro e w4 ⟨rfl, hc, hE⟩
        have H4 := Aside0.mk (H3.out.eff hE hc)
        have HB4 := Aside0.mk (hE.below HB3.out (H3.out.ge hg) hg)
        clear hc hE hcc hcb hfb hcl hfl
        go_wp2_with fail
        refine (HS5.out _ H3.out.cur _).mono ?_
        rintro e w5 ⟨rfl, hb⟩
        have H5 := Aside0.mk (H4.out.below hb)
        have HB5 := Aside0.mk (below_then HB4.out (H4.out.ge hg) hb)
        clear hb
        go_upto_region 5 with (fail)
        obtain ⟨gp, hgp⟩ : ∃ gp, w5.heap.size = gp := ⟨_, rfl⟩
        have hBgp : B ≤ gp := by rw [← hgp]; exact H5.out.ge hg
        have HNP : Aside0 (∀ k, (Value.slice A l.length c).ownBlock = some k → k ≠ gp) := ⟨fun k hk e => by
          have := own_lt H5.out.own k hk
          omega⟩
        have H6 := Aside0.mk (H5.out.below (below_alloc (Below.refl w5.heap.size w5) (.cells #[.string N, .string ⟨#[]⟩] 70 (0, 0))))
        have HB6 := Aside0.mk (HB5.out.alloc (H5.out.ge hg) (.cells #[.string N, .string ⟨#[]⟩] 70 (0, 0)))
        have HP6 := Aside0.mk (blk_new w5 (.cells #[.string N, .string ⟨#[]⟩] 70 (0, 0)))
        obtain ⟨z6, hz6⟩ : ∃ z6, w5.alloc (.cells #[.string N, .string ⟨#[]⟩] 70 (0, 0)) = z6 := ⟨_, rfl⟩
        rw [hz6] at H6 HB6 HP6 ⊢
        rw [hgp] at HP6 ⊢
        clear hz6 hgp
        obtain ⟨hcc, hcb, hfb, hcl, hfl⟩ := H6.out.cells
        have hp0 : z6.cell? ⟨gp, 0, none⟩ = some (.string N) := (blk_cell HP6.out 0).trans rfl
        have H7 := Aside0.mk (H6.out.setb true)
        have HB7 := Aside0.mk (HB6.out.setCell (p := ⟨gb, 0, none⟩) hgb (.bool true))
        have HP7 := Aside0.mk (blk_far HP6.out (p := ⟨gb, 0, none⟩) (ne_types HP6.out H6.out.cb (by decide)) (.bool true))
        obtain ⟨z7, hz7⟩ : ∃ z7, z6.setCell ⟨gb, 0, none⟩ (.bool true) = z7 := ⟨_, rfl⟩
        rw [hz7] at H7 HB7 HP7
        obtain ⟨kcc, kcb, kfb, kcl, kfl⟩ := H7.out.cells
        go_wp2_with fail
        refine (HS6.out _ H7.out.cur).mono ?_
        rintro e w8 ⟨rfl, hc, hE⟩
        have H8 := Aside0.mk (H7.out.eff hE hc)
        have HB8 := Aside0.mk (hE.below HB7.out (H7.out.ge hg) hg)
        have HP8 : Aside0 (w8.heap[gp]? = some (.cells #[.string N, .string ⟨#[]⟩] 70 (0, 0))) := ⟨by
          obtain ⟨cs, hq⟩ := H7.out.cur.cells
          exact (hE.block _ (blk_lt HP7.out) (ne_types HP7.out hq (by decide))).trans HP7.out⟩
        clear hc hE hcc hcb hfb hcl hfl kcc kcb kfb kcl kfl hz7 hp0
        have hp1 : w8.cell? ⟨gp, 1, none⟩ = some (.string ⟨#[]⟩) := (blk_cell HP8.out 1).trans rfl
        have hf1 := blk_frozen HP8.out 1
        have HBgp : Aside0 (B ≤ gp) := ⟨hBgp⟩
        have H9 := Aside0.mk (H8.out.setp HP8.out HNP.out 1 (.string V))
        have HB9 := Aside0.mk (HB8.out.setCell (p := ⟨gp, 1, none⟩) hBgp (.string V))
        have HP9 : Aside0 ((w8.setCell ⟨gp, 1, none⟩ (.string V)).heap[gp]? = some (.cells #[.string N, .string V] 70 (0, 0))) := ⟨blk_set HP8.out 1 (.string V)⟩
        obtain ⟨z9, hz9⟩ : ∃ z9, w8.setCell ⟨gp, 1, none⟩ (.string V) = z9 := ⟨_, rfl⟩
        rw [hz9] at H9 HB9 HP9
        obtain ⟨hcc, hcb, hfb, hcl, hfl⟩ := H9.out.cells
        have H10 := Aside0.mk (H9.out.setb true)
        have HB10 := Aside0.mk (HB9.out.setCell (p := ⟨gb, 0, none⟩) hgb (.bool true))
        have HP10 := Aside0.mk (blk_far HP9.out (p := ⟨gb, 0, none⟩) (ne_types HP9.out H9.out.cb (by decide)) (.bool true))
        obtain ⟨z10, hz10⟩ : ∃ z10, z9.setCell ⟨gb, 0, none⟩ (.bool true) = z10 := ⟨_, rfl⟩
        rw [hz10] at H10 HB10 HP10
        obtain ⟨kcc, kcb, kfb, kcl, kfl⟩ := H10.out.cells
        have hq0 : z10.cell? ⟨gp, 0, none⟩ = some (.string N) := (blk_cell HP10.out 0).trans rfl
        have hq1 : z10.cell? ⟨gp, 1, none⟩ = some (.string V) := (blk_cell HP10.out 1).trans rfl
        go_wp2_with (at_builtin; refine print_append_cells (w0 := W0) B rfl (.tmp 34) (.tmp 36) 62 70 _ 2 32 rfl Try.underlying62 inf70 rfl (by decide) (by decide) _ l.length (prs l) [.string N, .string V] rfl rfl rfl (by intro u hu; simp at hu; rcases hu with rfl | rfl <;> rfl) H10.out.own HB10.out (H10.out.ge hg) hl ?_)
        intro v1 w11 hown hB11 hgr hat
        obtain ⟨A1, c1, hv1⟩ := own_slice hown
        subst hv1
        have hg11 := H10.out.grownl hgr
        have hcl11 : w11.cell? ⟨gl, 0, none⟩ = some (.slice A l.length c) := (blk_cell hg11 0).trans rfl
        have hfl11 := blk_frozen hg11 0
        have H12 := Aside0.mk (H10.out.setl (l1 := l ++ [(N, V)]) hgr (by rw [List.length_append, List.length_singleton, prs_snoc]; exact hown))
        have HB12 := Aside0.mk (hB11.setCell (p := ⟨gl, 0, none⟩) hgl (.slice A1 (l.length + 1) c1))
        clear hg11 hown hB11 hgr hat hcc hcb hfb hcl hfl kcc kcb kfb kcl kfl hq0 hq1 hz9 hz10 hp1 hf1
        obtain ⟨z12, hz12⟩ : ∃ z12, w11.setCell ⟨gl, 0, none⟩ (.slice A1 (l.length + 1) c1) = z12 := ⟨_, rfl⟩
        rw [hz12] at H12 HB12
        obtain ⟨hcc, hcb, hfb, hcl, hfl⟩ := H12.out.cells
        go_wp2
        go_ret
        exact ⟨rfl, _, H12.out, HB12.out⟩
      | false =>
        have hNe : N.toList.isEmpty = false := hNe0
        clear hNe0
        go_enter Try.func95, Try.ntmps95
        go_wp2_with fail
        refine (HS1.out _ H.out.cur).mono ?_
        rintro e w1 ⟨x, rfl, hc, hE⟩
        have H1 := Aside0.mk (H.out.eff hE hc)
        have HB1 := Aside0.mk (hE.below HB0.out hB hg)
        clear hc hE hcc hcb hfb hcl hfl
        obtain ⟨hcc, hcb, hfb, hcl, hfl⟩ := H1.out.cells
        have hB1 : B ≤ w1.heap.size := Nat.le_of_lt (Nat.lt_of_le_of_lt hg H1.out.cur.lt)
        go_wp2_with fail
        refine (HS2.out _ H1.out.cur).mono ?_
        rintro e w2 ⟨rfl, hc, hE⟩
        have H2 := Aside0.mk ((H1.out.eff hE hc).setb false)
        have HB2 := Aside0.mk ((hE.below HB1.out hB1 hg).setCell (p := ⟨gb, 0, none⟩) hgb (.bool false))
        have hfb2 := (H1.out.eff hE hc).cells.2.2.1
        have hcb2 := (H1.out.eff hE hc).cells.2.1
        clear hc hE hcc hcb hfb hcl hfl
        obtain ⟨hcc, hcb, hfb, hcl, hfl⟩ := H2.out.cells
        obtain ⟨z2, hz2⟩ : ∃ z2, w2.setCell ⟨gb, 0, none⟩ (.bool false) = z2 := ⟨_, rfl⟩
        rw [hz2] at hcc hcb hfb hcl hfl H2 HB2
        go_wp2_with fail
        refine (HS3.out _ H2.out.cur).mono ?_
        rintro e w3 ⟨x3, rfl, hc, hE⟩
        have H3 := Aside0.mk (H2.out.eff hE hc)
        have HB3 := Aside0.mk (hE.below HB2.out (H2.out.ge hg) hg)
        clear hc hE hcc hcb hfb hcl hfl hz2 hfb2 hcb2
        obtain ⟨hcc, hcb, hfb, hcl, hfl⟩ := H3.out.cells
        go_wp2_with fail
        refine (HS4.out _ H3.out.cur).mono ?_
        rintro e w4 ⟨rfl, hc, hE⟩
        have H4 := Aside0.mk (H3.out.eff hE hc)
        have HB4 := Aside0.mk (hE.below HB3.out (H3.out.ge hg) hg)
        clear hc hE hcc hcb hfb hcl hfl
        go_wp2_with fail
        refine (HS5.out _ H3.out.cur _).mono ?_
        rintro e w5 ⟨rfl, hb⟩
        have H5 := Aside0.mk (H4.out.below hb)
        have HB5 := Aside0.mk (below_then HB4.out (H4.out.ge hg) hb)
        clear hb
        go_upto_region 5 with (fail)
        obtain ⟨gp, hgp⟩ : ∃ gp, w5.heap.size = gp := ⟨_, rfl⟩
        have hBgp : B ≤ gp := by rw [← hgp]; exact H5.out.ge hg
        have HNP : Aside0 (∀ k, (Value.slice A l.length c).ownBlock = some k → k ≠ gp) := ⟨fun k hk e => by
          have := own_lt H5.out.own k hk
          omega⟩
        have H6 := Aside0.mk (H5.out.below (below_alloc (Below.refl w5.heap.size w5) (.cells #[.string N, .string ⟨#[]⟩] 70 (0, 0))))
        have HB6 := Aside0.mk (HB5.out.alloc (H5.out.ge hg) (.cells #[.string N, .string ⟨#[]⟩] 70 (0, 0)))
        have HP6 := Aside0.mk (blk_new w5 (.cells #[.string N, .string ⟨#[]⟩] 70 (0, 0)))
        obtain ⟨z6, hz6⟩ : ∃ z6, w5.alloc (.cells #[.string N, .string ⟨#[]⟩] 70 (0, 0)) = z6 := ⟨_, rfl⟩
        rw [hz6] at H6 HB6 HP6 ⊢
        rw [hgp] at HP6 ⊢
        clear hz6 hgp
        obtain ⟨hcc, hcb, hfb, hcl, hfl⟩ := H6.out.cells
        have hp0 : z6.cell? ⟨gp, 0, none⟩ = some (.string N) := (blk_cell HP6.out 0).trans rfl
        have H7 := Aside0.mk (H6.out.setb false)
        have HB7 := Aside0.mk (HB6.out.setCell (p := ⟨gb, 0, none⟩) hgb (.bool false))
        have HP7 := Aside0.mk (blk_far HP6.out (p := ⟨gb, 0, none⟩) (ne_types HP6.out H6.out.cb (by decide)) (.bool false))
        obtain ⟨z7, hz7⟩ : ∃ z7, z6.setCell ⟨gb, 0, none⟩ (.bool false) = z7 := ⟨_, rfl⟩
        rw [hz7] at H7 HB7 HP7
        obtain ⟨kcc, kcb, kfb, kcl, kfl⟩ := H7.out.cells
        go_wp2_with fail
        refine (HS6.out _ H7.out.cur).mono ?_
        rintro e w8 ⟨rfl, hc, hE⟩
        have H8 := Aside0.mk (H7.out.eff hE hc)
        have HB8 := Aside0.mk (hE.below HB7.out (H7.out.ge hg) hg)
        have HP8 : Aside0 (w8.heap[gp]? = some (.cells #[.string N, .string ⟨#[]⟩] 70 (0, 0))) := ⟨by
          obtain ⟨cs, hq⟩ := H7.out.cur.cells
          exact (hE.block _ (blk_lt HP7.out) (ne_types HP7.out hq (by decide))).trans HP7.out⟩
        clear hc hE hcc hcb hfb hcl hfl kcc kcb kfb kcl kfl hz7 hp0
        have hp1 : w8.cell? ⟨gp, 1, none⟩ = some (.string ⟨#[]⟩) := (blk_cell HP8.out 1).trans rfl
        have hf1 := blk_frozen HP8.out 1
        have HBgp : Aside0 (B ≤ gp) := ⟨hBgp⟩
        have H9 := Aside0.mk (H8.out.setp HP8.out HNP.out 1 (.string V))
        have HB9 := Aside0.mk (HB8.out.setCell (p := ⟨gp, 1, none⟩) hBgp (.string V))
        have HP9 : Aside0 ((w8.setCell ⟨gp, 1, none⟩ (.string V)).heap[gp]? = some (.cells #[.string N, .string V] 70 (0, 0))) := ⟨blk_set HP8.out 1 (.string V)⟩
        obtain ⟨z9, hz9⟩ : ∃ z9, w8.setCell ⟨gp, 1, none⟩ (.string V) = z9 := ⟨_, rfl⟩
        rw [hz9] at H9 HB9 HP9
        obtain ⟨hcc, hcb, hfb, hcl, hfl⟩ := H9.out.cells
        have H10 := Aside0.mk (H9.out.setb true)
        have HB10 := Aside0.mk (HB9.out.setCell (p := ⟨gb, 0, none⟩) hgb (.bool true))
        have HP10 := Aside0.mk (blk_far HP9.out (p := ⟨gb, 0, none⟩) (ne_types HP9.out H9.out.cb (by decide)) (.bool true))
        obtain ⟨z10, hz10⟩ : ∃ z10, z9.setCell ⟨gb, 0, none⟩ (.bool true) = z10 := ⟨_, rfl⟩
        rw [hz10] at H10 HB10 HP10
        obtain ⟨kcc, kcb, kfb, kcl, kfl⟩ := H10.out.cells
        have hq0 : z10.cell? ⟨gp, 0, none⟩ = some (.string N) := (blk_cell HP10.out 0).trans rfl
        have hq1 : z10.cell? ⟨gp, 1, none⟩ = some (.string V) := (blk_cell HP10.out 1).trans rfl
        go_wp2_with (at_builtin; refine print_append_cells (w0 := W0) B rfl (.tmp 34) (.tmp 36) 62 70 _ 2 32 rfl Try.underlying62 inf70 rfl (by decide) (by decide) _ l.length (prs l) [.string N, .string V] rfl rfl rfl (by intro u hu; simp at hu; rcases hu with rfl | rfl <;> rfl) H10.out.own HB10.out (H10.out.ge hg) hl ?_)
        intro v1 w11 hown hB11 hgr hat
        obtain ⟨A1, c1, hv1⟩ := own_slice hown
        subst hv1
        have hg11 := H10.out.grownl hgr
        have hcl11 : w11.cell? ⟨gl, 0, none⟩ = some (.slice A l.length c) := (blk_cell hg11 0).trans rfl
        have hfl11 := blk_frozen hg11 0
        have H12 := Aside0.mk (H10.out.setl (l1 := l ++ [(N, V)]) hgr (by rw [List.length_append, List.length_singleton, prs_snoc]; exact hown))
        have HB12 := Aside0.mk (hB11.setCell (p := ⟨gl, 0, none⟩) hgl (.slice A1 (l.length + 1) c1))
        clear hg11 hown hB11 hgr hat hcc hcb hfb hcl hfl kcc kcb kfb kcl kfl hq0 hq1 hz9 hz10 hp1 hf1
        obtain ⟨z12, hz12⟩ : ∃ z12, w11.setCell ⟨gl, 0, none⟩ (.slice A1 (l.length + 1) c1) = z12 := ⟨_, rfl⟩
        rw [hz12] at H12 HB12
        obtain ⟨hcc, hcb, hfb, hcl, hfl⟩ := H12.out.cells
        go_wp2
        go_ret
        exact ⟨rfl, _, H12.out, HB12.out⟩
  | false =>
    cases ok with
    | true =>
      cases kz with
      | true =>
        have hNe : N.toList.isEmpty = true := hNe0
        clear hNe0
        go_enter Try.func95, Try.ntmps95
        go_wp2_with fail
        refine (HS1.out _ H.out.cur).mono ?_
        rintro e w1 ⟨x, rfl, hc, hE⟩
        have H1 := Aside0.mk (H.out.eff hE hc)
        have HB1 := Aside0.mk (hE.below HB0.out hB hg)
        clear hc hE hcc hcb hfb hcl hfl
        obtain ⟨hcc, hcb, hfb, hcl, hfl⟩ := H1.out.cells
        have hB1 : B ≤ w1.heap.size := Nat.le_of_lt (Nat.lt_of_le_of_lt hg H1.out.cur.lt)
        go_wp2_with fail
        refine (HS2.out _ H1.out.cur).mono ?_
        rintro e w2 ⟨rfl, hc, hE⟩
        have H2 := Aside0.mk ((H1.out.eff hE hc).setb true)
        have HB2 := Aside0.mk ((hE.below HB1.out hB1 hg).setCell (p := ⟨gb, 0, none⟩) hgb (.bool true))
        have hfb2 := (H1.out.eff hE hc).cells.2.2.1
        have hcb2 := (H1.out.eff hE hc).cells.2.1
        clear hc hE hcc hcb hfb hcl hfl
        obtain ⟨hcc, hcb, hfb, hcl, hfl⟩ := H2.out.cells
        obtain ⟨z2, hz2⟩ : ∃ z2, w2.setCell ⟨gb, 0, none⟩ (.bool true) = z2 := ⟨_, rfl⟩
        rw [hz2] at hcc hcb hfb hcl hfl H2 HB2
        go_wp2_with fail
        refine (HS3.out _ H2.out.cur).mono ?_
        rintro e w3 ⟨x3, rfl, hc, hE⟩
        have H3 := Aside0.mk (H2.out.eff hE hc)
        have HB3 := Aside0.mk (hE.below HB2.out (H2.out.ge hg) hg)
        clear hc hE hcc hcb hfb hcl hfl hz2 hfb2 hcb2
        obtain ⟨hcc, hcb, hfb, hcl, hfl⟩ := H3.out.cells
        go_wp2_with fail
        refine (HS4.out _ H3.out.cur).mono ?_
        rintro e w4 ⟨rfl, hc, hE⟩
        have H4 := Aside0.mk (H3.out.eff hE hc)
        have HB4 := Aside0.mk (hE.below HB3.out (H3.out.ge hg) hg)
        clear hc hE hcc hcb hfb hcl hfl
        go_wp2_with fail
        refine (HS5.out _ H3.out.cur _).mono ?_
        rintro e w5 ⟨rfl, hb⟩
        have H5 := Aside0.mk (H4.out.below hb)
        have HB5 := Aside0.mk (below_then HB4.out (H4.out.ge hg) hb)
        clear hb
        go_upto_region 5 with (fail)
        obtain ⟨gp, hgp⟩ : ∃ gp, w5.heap.size = gp := ⟨_, rfl⟩
        have hBgp : B ≤ gp := by rw [← hgp]; exact H5.out.ge hg
        have HNP : Aside0 (∀ k, (Value.slice A l.length c).ownBlock = some k → k ≠ gp) := ⟨fun k hk e => by
          have := own_lt H5.out.own k hk
          omega⟩
        have H6 := Aside0.mk (H5.out.below (below_alloc (Below.refl w5.heap.size w5) (.cells #[.string N, .string ⟨#[]⟩] 70 (0, 0))))
        have HB6 := Aside0.mk (HB5.out.alloc (H5.out.ge hg) (.cells #[.string N, .string ⟨#[]⟩] 70 (0, 0)))
        have HP6 := Aside0.mk (blk_new w5 (.cells #[.string N, .string ⟨#[]⟩] 70 (0, 0)))
        obtain ⟨z6, hz6⟩ : ∃ z6, w5.alloc (.cells #[.string N, .string ⟨#[]⟩] 70 (0, 0)) = z6 := ⟨_, rfl⟩
        rw [hz6] at H6 HB6 HP6 ⊢
        rw [hgp] at HP6 ⊢
        clear hz6 hgp
        obtain ⟨hcc, hcb, hfb, hcl, hfl⟩ := H6.out.cells
        have hp0 : z6.cell? ⟨gp, 0, none⟩ = some (.string N) := (blk_cell HP6.out 0).trans rfl
        have H7 := Aside0.mk (H6.out.setb true)
        have HB7 := Aside0.mk (HB6.out.setCell (p := ⟨gb, 0, none⟩) hgb (.bool true))
        have HP7 := Aside0.mk (blk_far HP6.out (p := ⟨gb, 0, none⟩) (ne_types HP6.out H6.out.cb (by decide)) (.bool true))
        obtain ⟨z7, hz7⟩ : ∃ z7, z6.setCell ⟨gb, 0, none⟩ (.bool true) = z7 := ⟨_, rfl⟩
        rw [hz7] at H7 HB7 HP7
        obtain ⟨kcc, kcb, kfb, kcl, kfl⟩ := H7.out.cells
        go_wp2_with fail
        refine (HS6.out _ H7.out.cur).mono ?_
        rintro e w8 ⟨rfl, hc, hE⟩
        have H8 := Aside0.mk (H7.out.eff hE hc)
        have HB8 := Aside0.mk (hE.below HB7.out (H7.out.ge hg) hg)
        have HP8 : Aside0 (w8.heap[gp]? = some (.cells #[.string N, .string ⟨#[]⟩] 70 (0, 0))) := ⟨by
          obtain ⟨cs, hq⟩ := H7.out.cur.cells
          exact (hE.block _ (blk_lt HP7.out) (ne_types HP7.out hq (by decide))).trans HP7.out⟩
        clear hc hE hcc hcb hfb hcl hfl kcc kcb kfb kcl kfl hz7 hp0
        have hp1 : w8.cell? ⟨gp, 1, none⟩ = some (.string ⟨#[]⟩) := (blk_cell HP8.out 1).trans rfl
        have hf1 := blk_frozen HP8.out 1
        have HBgp : Aside0 (B ≤ gp) := ⟨hBgp⟩
        have H9 := Aside0.mk (H8.out.setp HP8.out HNP.out 1 (.string V))
        have HB9 := Aside0.mk (HB8.out.setCell (p := ⟨gp, 1, none⟩) hBgp (.string V))
        have HP9 : Aside0 ((w8.setCell ⟨gp, 1, none⟩ (.string V)).heap[gp]? = some (.cells #[.string N, .string V] 70 (0, 0))) := ⟨blk_set HP8.out 1 (.string V)⟩
        obtain ⟨z9, hz9⟩ : ∃ z9, w8.setCell ⟨gp, 1, none⟩ (.string V) = z9 := ⟨_, rfl⟩
        rw [hz9] at H9 HB9 HP9
        obtain ⟨hcc, hcb, hfb, hcl, hfl⟩ := H9.out.cells
        have H10 := H9
        have HB10 := HB9
        have HP10 := HP9
        have hq0 : z9.cell? ⟨gp, 0, none⟩ = some (.string N) := (blk_cell HP10.out 0).trans rfl
        have hq1 : z9.cell? ⟨gp, 1, none⟩ = some (.string V) := (blk_cell HP10.out 1).trans rfl
        go_wp2_with (at_builtin; refine print_append_cells (w0 := W0) B rfl (.tmp 34) (.tmp 36) 62 70 _ 2 32 rfl Try.underlying62 inf70 rfl (by decide) (by decide) _ l.length (prs l) [.string N, .string V] rfl rfl rfl (by intro u hu; simp at hu; rcases hu with rfl | rfl <;> rfl) H10.out.own HB10.out (H10.out.ge hg) hl ?_)
        intro v1 w11 hown hB11 hgr hat
        obtain ⟨A1, c1, hv1⟩ := own_slice hown
        subst hv1
        have hg11 := H10.out.grownl hgr
        have hcl11 : w11.cell? ⟨gl, 0, none⟩ = some (.slice A l.length c) := (blk_cell hg11 0).trans rfl
        have hfl11 := blk_frozen hg11 0
        have H12 := Aside0.mk (H10.out.setl (l1 := l ++ [(N, V)]) hgr (by rw [List.length_append, List.length_singleton, prs_snoc]; exact hown))
        have HB12 := Aside0.mk (hB11.setCell (p := ⟨gl, 0, none⟩) hgl (.slice A1 (l.length + 1) c1))
        clear hg11 hown hB11 hgr hat hcc hcb hfb hcl hfl  hq0 hq1 hz9  hp1 hf1
        obtain ⟨z12, hz12⟩ : ∃ z12, w11.setCell ⟨gl, 0, none⟩ (.slice A1 (l.length + 1) c1) = z12 := ⟨_, rfl⟩
        rw [hz12] at H12 HB12
        obtain ⟨hcc, hcb, hfb, hcl, hfl⟩ := H12.out.cells
        go_wp2
        go_ret
        exact ⟨rfl, _, H12.out, HB12.out⟩
      | false =>
        have hNe : N.toList.isEmpty = false := hNe0
        clear hNe0
        go_enter Try.func95, Try.ntmps95
        go_wp2_with fail
        refine (HS1.out _ H.out.cur).mono ?_
        rintro e w1 ⟨x, rfl, hc, hE⟩
        have H1 := Aside0.mk (H.out.eff hE hc)
        have HB1 := Aside0.mk (hE.below HB0.out hB hg)
        clear hc hE hcc hcb hfb hcl hfl
        obtain ⟨hcc, hcb, hfb, hcl, hfl⟩ := H1.out.cells
        have hB1 : B ≤ w1.heap.size := Nat.le_of_lt (Nat.lt_of_le_of_lt hg H1.out.cur.lt)
        go_wp2_with fail
        refine (HS2.out _ H1.out.cur).mono ?_
        rintro e w2 ⟨rfl, hc, hE⟩
        have H2 := Aside0.mk ((H1.out.eff hE hc).setb true)
        have HB2 := Aside0.mk ((hE.below HB1.out hB1 hg).setCell (p := ⟨gb, 0, none⟩) hgb (.bool true))
        have hfb2 := (H1.out.eff hE hc).cells.2.2.1
        have hcb2 := (H1.out.eff hE hc).cells.2.1
        clear hc hE hcc hcb hfb hcl hfl
        obtain ⟨hcc, hcb, hfb, hcl, hfl⟩ := H2.out.cells
        obtain ⟨z2, hz2⟩ : ∃ z2, w2.setCell ⟨gb, 0, none⟩ (.bool true) = z2 := ⟨_, rfl⟩
        rw [hz2] at hcc hcb hfb hcl hfl H2 HB2
        go_wp2_with fail
        refine (HS3.out _ H2.out.cur).mono ?_
        rintro e w3 ⟨x3, rfl, hc, hE⟩
        have H3 := Aside0.mk (H2.out.eff hE hc)
        have HB3 := Aside0.mk (hE.below HB2.out (H2.out.ge hg) hg)
        clear hc hE hcc hcb hfb hcl hfl hz2 hfb2 hcb2
        obtain ⟨hcc, hcb, hfb, hcl, hfl⟩ := H3.out.cells
        go_wp2_with fail
        refine (HS4.out _ H3.out.cur).mono ?_
        rintro e w4 ⟨rfl, hc, hE⟩
        have H4 := Aside0.mk (H3.out.eff hE hc)
        have HB4 := Aside0.mk (hE.below HB3.out (H3.out.ge hg) hg)
        clear hc hE hcc hcb hfb hcl hfl
        go_wp2_with fail
        refine (HS5.out _ H3.out.cur _).mono ?_
        rintro e w5 ⟨rfl, hb⟩
        have H5 := Aside0.mk (H4.out.below hb)
        have HB5 := Aside0.mk (below_then HB4.out (H4.out.ge hg) hb)
        clear hb
        go_upto_region 5 with (fail)
        obtain ⟨gp, hgp⟩ : ∃ gp, w5.heap.size = gp := ⟨_, rfl⟩
        have hBgp : B ≤ gp := by rw [← hgp]; exact H5.out.ge hg
        have HNP : Aside0 (∀ k, (Value.slice A l.length c).ownBlock = some k → k ≠ gp) := ⟨fun k hk e => by
          have := own_lt H5.out.own k hk
          omega⟩
        have H6 := Aside0.mk (H5.out.below (below_alloc (Below.refl w5.heap.size w5) (.cells #[.string N, .string ⟨#[]⟩] 70 (0, 0))))
        have HB6 := Aside0.mk (HB5.out.alloc (H5.out.ge hg) (.cells #[.string N, .string ⟨#[]⟩] 70 (0, 0)))
        have HP6 := Aside0.mk (blk_new w5 (.cells #[.string N, .string ⟨#[]⟩] 70 (0, 0)))
        obtain ⟨z6, hz6⟩ : ∃ z6, w5.alloc (.cells #[.string N, .string ⟨#[]⟩] 70 (0, 0)) = z6 := ⟨_, rfl⟩
        rw [hz6] at H6 HB6 HP6 ⊢
        rw [hgp] at HP6 ⊢
        clear hz6 hgp
        obtain ⟨hcc, hcb, hfb, hcl, hfl⟩ := H6.out.cells
        have hp0 : z6.cell? ⟨gp, 0, none⟩ = some (.string N) := (blk_cell HP6.out 0).trans rfl
        have H7 := Aside0.mk (H6.out.setb true)
        have HB7 := Aside0.mk (HB6.out.setCell (p := ⟨gb, 0, none⟩) hgb (.bool true))
        have HP7 := Aside0.mk (blk_far HP6.out (p := ⟨gb, 0, none⟩) (ne_types HP6.out H6.out.cb (by decide)) (.bool true))
        obtain ⟨z7, hz7⟩ : ∃ z7, z6.setCell ⟨gb, 0, none⟩ (.bool true) = z7 := ⟨_, rfl⟩
        rw [hz7] at H7 HB7 HP7
        obtain ⟨kcc, kcb, kfb, kcl, kfl⟩ := H7.out.cells
        go_wp2_with fail
        refine (HS6.out _ H7.out.cur).mono ?_
        rintro e w8 ⟨rfl, hc, hE⟩
        have H8 := Aside0.mk (H7.out.eff hE hc)
        have HB8 := Aside0.mk (hE.below HB7.out (H7.out.ge hg) hg)
        have HP8 : Aside0 (w8.heap[gp]? = some (.cells #[.string N, .string ⟨#[]⟩] 70 (0, 0))) := ⟨by
          obtain ⟨cs, hq⟩ := H7.out.cur.cells
          exact (hE.block _ (blk_lt HP7.out) (ne_types HP7.out hq (by decide))).trans HP7.out⟩
        clear hc hE hcc hcb hfb hcl hfl kcc kcb kfb kcl kfl hz7 hp0
        have hp1 : w8.cell? ⟨gp, 1, none⟩ = some (.string ⟨#[]⟩) := (blk_cell HP8.out 1).trans rfl
        have hf1 := blk_frozen HP8.out 1
        have HBgp : Aside0 (B ≤ gp) := ⟨hBgp⟩
        have H9 := Aside0.mk (H8.out.setp HP8.out HNP.out 1 (.string V))
        have HB9 := Aside0.mk (HB8.out.setCell (p := ⟨gp, 1, none⟩) hBgp (.string V))
        have HP9 : Aside0 ((w8.setCell ⟨gp, 1, none⟩ (.string V)).heap[gp]? = some (.cells #[.string N, .string V] 70 (0, 0))) := ⟨blk_set HP8.out 1 (.string V)⟩
        obtain ⟨z9, hz9⟩ : ∃ z9, w8.setCell ⟨gp, 1, none⟩ (.string V) = z9 := ⟨_, rfl⟩
        rw [hz9] at H9 HB9 HP9
        obtain ⟨hcc, hcb, hfb, hcl, hfl⟩ := H9.out.cells
        have H10 := H9
        have HB10 := HB9
        have HP10 := HP9
        have hq0 : z9.cell? ⟨gp, 0, none⟩ = some (.string N) := (blk_cell HP10.out 0).trans rfl
        have hq1 : z9.cell? ⟨gp, 1, none⟩ = some (.string V) := (blk_cell HP10.out 1).trans rfl
        go_wp2_with (at_builtin; refine print_append_cells (w0 := W0) B rfl (.tmp 34) (.tmp 36) 62 70 _ 2 32 rfl Try.underlying62 inf70 rfl (by decide) (by decide) _ l.length (prs l) [.string N, .string V] rfl rfl rfl (by intro u hu; simp at hu; rcases hu with rfl | rfl <;> rfl) H10.out.own HB10.out (H10.out.ge hg) hl ?_)
        intro v1 w11 hown hB11 hgr hat
        obtain ⟨A1, c1, hv1⟩ := own_slice hown
        subst hv1
        have hg11 := H10.out.grownl hgr
        have hcl11 : w11.cell? ⟨gl, 0, none⟩ = some (.slice A l.length c) := (blk_cell hg11 0).trans rfl
        have hfl11 := blk_frozen hg11 0
        have H12 := Aside0.mk (H10.out.setl (l1 := l ++ [(N, V)]) hgr (by rw [List.length_append, List.length_singleton, prs_snoc]; exact hown))
        have HB12 := Aside0.mk (hB11.setCell (p := ⟨gl, 0, none⟩) hgl (.slice A1 (l.length + 1) c1))
        clear hg11 hown hB11 hgr hat hcc hcb hfb hcl hfl  hq0 hq1 hz9  hp1 hf1
        obtain ⟨z12, hz12⟩ : ∃ z12, w11.setCell ⟨gl, 0, none⟩ (.slice A1 (l.length + 1) c1) = z12 := ⟨_, rfl⟩
        rw [hz12] at H12 HB12
        obtain ⟨hcc, hcb, hfb, hcl, hfl⟩ := H12.out.cells
        go_wp2
        go_ret
        exact ⟨rfl, _, H12.out, HB12.out⟩
    | false =>
      cases kz with
      | true =>
        have hNe : N.toList.isEmpty = true := hNe0
        clear hNe0
        go_enter Try.func95, Try.ntmps95
        go_wp2_with fail
        refine (HS1.out _ H.out.cur).mono ?_
        rintro e w1 ⟨x, rfl, hc, hE⟩
        have H1 := Aside0.mk (H.out.eff hE hc)
        have HB1 := Aside0.mk (hE.below HB0.out hB hg)
        clear hc hE hcc hcb hfb hcl hfl
        obtain ⟨hcc, hcb, hfb, hcl, hfl⟩ := H1.out.cells
        have hB1 : B ≤ w1.heap.size := Nat.le_of_lt (Nat.lt_of_le_of_lt hg H1.out.cur.lt)
        go_wp2_with fail
        refine (HS2.out _ H1.out.cur).mono ?_
        rintro e w2 ⟨rfl, hc, hE⟩
        have H2 := Aside0.mk ((H1.out.eff hE hc).setb true)
        have HB2 := Aside0.mk ((hE.below HB1.out hB1 hg).setCell (p := ⟨gb, 0, none⟩) hgb (.bool true))
        have hfb2 := (H1.out.eff hE hc).cells.2.2.1
        have hcb2 := (H1.out.eff hE hc).cells.2.1
        clear hc hE hcc hcb hfb hcl hfl
        obtain ⟨hcc, hcb, hfb, hcl, hfl⟩ := H2.out.cells
        obtain ⟨z2, hz2⟩ : ∃ z2, w2.setCell ⟨gb, 0, none⟩ (.bool true) = z2 := ⟨_, rfl⟩
        rw [hz2] at hcc hcb hfb hcl hfl H2 HB2
        go_wp2_with fail
        refine (HS3.out _ H2.out.cur).mono ?_
        rintro e w3 ⟨x3, rfl, hc, hE⟩
        have H3 := Aside0.mk (H2.out.eff hE hc)
        have HB3 := Aside0.mk (hE.below HB2.out (H2.out.ge hg) hg)
        clear hc hE hcc hcb hfb hcl hfl hz2 hfb2 hcb2
        obtain ⟨hcc, hcb, hfb, hcl, hfl⟩ := H3.out.cells
        go_wp2_with fail
        refine (HS4.out _ H3.out.cur).mono ?_
        rintro e w4 ⟨rfl, hc, hE⟩
        have H4 := Aside0.mk (H3.out.eff hE hc)
        have HB4 := Aside0.mk (hE.below HB3.out (H3.out.ge hg) hg)
        clear hc hE hcc hcb hfb hcl hfl
        go_wp2_with fail
        refine (HS5.out _ H3.out.cur _).mono ?_
        rintro e w5 ⟨rfl, hb⟩
        have H5 := Aside0.mk (H4.out.below hb)
        have HB5 := Aside0.mk (below_then HB4.out (H4.out.ge hg) hb)
        clear hb
        go_upto_region 5 with (fail)
        obtain ⟨gp, hgp⟩ : ∃ gp, w5.heap.size = gp := ⟨_, rfl⟩
        have hBgp : B ≤ gp := by rw [← hgp]; exact H5.out.ge hg
        have HNP : Aside0 (∀ k, (Value.slice A l.length c).ownBlock = some k → k ≠ gp) := ⟨fun k hk e => by
          have := own_lt H5.out.own k hk
          omega⟩
        have H6 := Aside0.mk (H5.out.below (below_alloc (Below.refl w5.heap.size w5) (.cells #[.string N, .string ⟨#[]⟩] 70 (0, 0))))
        have HB6 := Aside0.mk (HB5.out.alloc (H5.out.ge hg) (.cells #[.string N, .string ⟨#[]⟩] 70 (0, 0)))
        have HP6 := Aside0.mk (blk_new w5 (.cells #[.string N, .string ⟨#[]⟩] 70 (0, 0)))
        obtain ⟨z6, hz6⟩ : ∃ z6, w5.alloc (.cells #[.string N, .string ⟨#[]⟩] 70 (0, 0)) = z6 := ⟨_, rfl⟩
        rw [hz6] at H6 HB6 HP6 ⊢
        rw [hgp] at HP6 ⊢
        clear hz6 hgp
        obtain ⟨hcc, hcb, hfb, hcl, hfl⟩ := H6.out.cells
        have hp0 : z6.cell? ⟨gp, 0, none⟩ = some (.string N) := (blk_cell HP6.out 0).trans rfl
        have H7 := Aside0.mk (H6.out.setb true)
        have HB7 := Aside0.mk (HB6.out.setCell (p := ⟨gb, 0, none⟩) hgb (.bool true))
        have HP7 := Aside0.mk (blk_far HP6.out (p := ⟨gb, 0, none⟩) (ne_types HP6.out H6.out.cb (by decide)) (.bool true))
        obtain ⟨z7, hz7⟩ : ∃ z7, z6.setCell ⟨gb, 0, none⟩ (.bool true) = z7 := ⟨_, rfl⟩
        rw [hz7] at H7 HB7 HP7
        obtain ⟨kcc, kcb, kfb, kcl, kfl⟩ := H7.out.cells
        go_wp2_with fail
        refine (HS6.out _ H7.out.cur).mono ?_
        rintro e w8 ⟨rfl, hc, hE⟩
        have H8 := Aside0.mk (H7.out.eff hE hc)
        have HB8 := Aside0.mk (hE.below HB7.out (H7.out.ge hg) hg)
        have HP8 : Aside0 (w8.heap[gp]? = some (.cells #[.string N, .string ⟨#[]⟩] 70 (0, 0))) := ⟨by
          obtain ⟨cs, hq⟩ := H7.out.cur.cells
          exact (hE.block _ (blk_lt HP7.out) (ne_types HP7.out hq (by decide))).trans HP7.out⟩
        clear hc hE hcc hcb hfb hcl hfl kcc kcb kfb kcl kfl hz7 hp0
        have hp1 : w8.cell? ⟨gp, 1, none⟩ = some (.string ⟨#[]⟩) := (blk_cell HP8.out 1).trans rfl
        have hf1 := blk_frozen HP8.out 1
        have HBgp : Aside0 (B ≤ gp) := ⟨hBgp⟩
        have H9 := Aside0.mk (H8.out.setp HP8.out HNP.out 1 (.string V))
        have HB9 := Aside0.mk (HB8.out.setCell (p := ⟨gp, 1, none⟩) hBgp (.string V))
        have HP9 : Aside0 ((w8.setCell ⟨gp, 1, none⟩ (.string V)).heap[gp]? = some (.cells #[.string N, .string V] 70 (0, 0))) := ⟨blk_set HP8.out 1 (.string V)⟩
        obtain ⟨z9, hz9⟩ : ∃ z9, w8.setCell ⟨gp, 1, none⟩ (.string V) = z9 := ⟨_, rfl⟩
        rw [hz9] at H9 HB9 HP9
        obtain ⟨hcc, hcb, hfb, hcl, hfl⟩ := H9.out.cells
        have H10 := Aside0.mk (H9.out.setb true)
        have HB10 := Aside0.mk (HB9.out.setCell (p := ⟨gb, 0, none⟩) hgb (.bool true))
        have HP10 := Aside0.mk (blk_far HP9.out (p := ⟨gb, 0, none⟩) (ne_types HP9.out H9.out.cb (by decide)) (.bool true))
        obtain ⟨z10, hz10⟩ : ∃ z10, z9.setCell ⟨gb, 0, none⟩ (.bool true) = z10 := ⟨_, rfl⟩
        rw [hz10] at H10 HB10 HP10
        obtain ⟨kcc, kcb, kfb, kcl, kfl⟩ := H10.out.cells
        have hq0 : z10.cell? ⟨gp, 0, none⟩ = some (.string N) := (blk_cell HP10.out 0).trans rfl
        have hq1 : z10.cell? ⟨gp, 1, none⟩ = some (.string V) := (blk_cell HP10.out 1).trans rfl
        go_wp2_with (at_builtin; refine print_append_cells (w0 := W0) B rfl (.tmp 34) (.tmp 36) 62 70 _ 2 32 rfl Try.underlying62 inf70 rfl (by decide) (by decide) _ l.length (prs l) [.string N, .string V] rfl rfl rfl (by intro u hu; simp at hu; rcases hu with rfl | rfl <;> rfl) H10.out.own HB10.out (H10.out.ge hg) hl ?_)
        intro v1 w11 hown hB11 hgr hat
        obtain ⟨A1, c1, hv1⟩ := own_slice hown
        subst hv1
        have hg11 := H10.out.grownl hgr
        have hcl11 : w11.cell? ⟨gl, 0, none⟩ = some (.slice A l.length c) := (blk_cell hg11 0).trans rfl
        have hfl11 := blk_frozen hg11 0
        have H12 := Aside0.mk (H10.out.setl (l1 := l ++ [(N, V)]) hgr (by rw [List.length_append, List.length_singleton, prs_snoc]; exact hown))
        have HB12 := Aside0.mk (hB11.setCell (p := ⟨gl, 0, none⟩) hgl (.slice A1 (l.length + 1) c1))
        clear hg11 hown hB11 hgr hat hcc hcb hfb hcl hfl kcc kcb kfb kcl kfl hq0 hq1 hz9 hz10 hp1 hf1
        obtain ⟨z12, hz12⟩ : ∃ z12, w11.setCell ⟨gl, 0, none⟩ (.slice A1 (l.length + 1) c1) = z12 := ⟨_, rfl⟩
        rw [hz12] at H12 HB12
        obtain ⟨hcc, hcb, hfb, hcl, hfl⟩ := H12.out.cells
        go_wp2
        go_ret
        exact ⟨rfl, _, H12.out, HB12.out⟩
      | false =>
        have hNe : N.toList.isEmpty = false := hNe0
        clear hNe0
        go_enter Try.func95, Try.ntmps95
        go_wp2_with fail
        refine (HS1.out _ H.out.cur).mono ?_
        rintro e w1 ⟨x, rfl, hc, hE⟩
        have H1 := Aside0.mk (H.out.eff hE hc)
        have HB1 := Aside0.mk (hE.below HB0.out hB hg)
        clear hc hE hcc hcb hfb hcl hfl
        obtain ⟨hcc, hcb, hfb, hcl, hfl⟩ := H1.out.cells
        have hB1 : B ≤ w1.heap.size := Nat.le_of_lt (Nat.lt_of_le_of_lt hg H1.out.cur.lt)
        go_wp2_with fail
        refine (HS2.out _ H1.out.cur).mono ?_
        rintro e w2 ⟨rfl, hc, hE⟩
        have H2 := Aside0.mk ((H1.out.eff hE hc).setb true)
        have HB2 := Aside0.mk ((hE.below HB1.out hB1 hg).setCell (p := ⟨gb, 0, none⟩) hgb (.bool true))
        have hfb2 := (H1.out.eff hE hc).cells.2.2.1
        have hcb2 := (H1.out.eff hE hc).cells.2.1
        clear hc hE hcc hcb hfb hcl hfl
        obtain ⟨hcc, hcb, hfb, hcl, hfl⟩ := H2.out.cells
        obtain ⟨z2, hz2⟩ : ∃ z2, w2.setCell ⟨gb, 0, none⟩ (.bool true) = z2 := ⟨_, rfl⟩
        rw [hz2] at hcc hcb hfb hcl hfl H2 HB2
        go_wp2_with fail
        refine (HS3.out _ H2.out.cur).mono ?_
        rintro e w3 ⟨x3, rfl, hc, hE⟩
        have H3 := Aside0.mk (H2.out.eff hE hc)
        have HB3 := Aside0.mk (hE.below HB2.out (H2.out.ge hg) hg)
        clear hc hE hcc hcb hfb hcl hfl hz2 hfb2 hcb2
        obtain ⟨hcc, hcb, hfb, hcl, hfl⟩ := H3.out.cells
        go_wp2_with fail
        refine (HS4.out _ H3.out.cur).mono ?_
        rintro e w4 ⟨rfl, hc, hE⟩
        have H4 := Aside0.mk (H3.out.eff hE hc)
        have HB4 := Aside0.mk (hE.below HB3.out (H3.out.ge hg) hg)
        clear hc hE hcc hcb hfb hcl hfl
        go_wp2_with fail
        refine (HS5.out _ H3.out.cur _).mono ?_
        rintro e w5 ⟨rfl, hb⟩
        have H5 := Aside0.mk (H4.out.below hb)
        have HB5 := Aside0.mk (below_then HB4.out (H4.out.ge hg) hb)
        clear hb
        go_upto_region 5 with (fail)
        obtain ⟨gp, hgp⟩ : ∃ gp, w5.heap.size = gp := ⟨_, rfl⟩
        have hBgp : B ≤ gp := by rw [← hgp]; exact H5.out.ge hg
        have HNP : Aside0 (∀ k, (Value.slice A l.length c).ownBlock = some k → k ≠ gp) := ⟨fun k hk e => by
          have := own_lt H5.out.own k hk
          omega⟩
        have H6 := Aside0.mk (H5.out.below (below_alloc (Below.refl w5.heap.size w5) (.cells #[.string N, .string ⟨#[]⟩] 70 (0, 0))))
        have HB6 := Aside0.mk (HB5.out.alloc (H5.out.ge hg) (.cells #[.string N, .string ⟨#[]⟩] 70 (0, 0)))
        have HP6 := Aside0.mk (blk_new w5 (.cells #[.string N, .string ⟨#[]⟩] 70 (0, 0)))
        obtain ⟨z6, hz6⟩ : ∃ z6, w5.alloc (.cells #[.string N, .string ⟨#[]⟩] 70 (0, 0)) = z6 := ⟨_, rfl⟩
        rw [hz6] at H6 HB6 HP6 ⊢
        rw [hgp] at HP6 ⊢
        clear hz6 hgp
        obtain ⟨hcc, hcb, hfb, hcl, hfl⟩ := H6.out.cells
        have hp0 : z6.cell? ⟨gp, 0, none⟩ = some (.string N) := (blk_cell HP6.out 0).trans rfl
        have H7 := Aside0.mk (H6.out.setb true)
        have HB7 := Aside0.mk (HB6.out.setCell (p := ⟨gb, 0, none⟩) hgb (.bool true))
        have HP7 := Aside0.mk (blk_far HP6.out (p := ⟨gb, 0, none⟩) (ne_types HP6.out H6.out.cb (by decide)) (.bool true))
        obtain ⟨z7, hz7⟩ : ∃ z7, z6.setCell ⟨gb, 0, none⟩ (.bool true) = z7 := ⟨_, rfl⟩
        rw [hz7] at H7 HB7 HP7
        obtain ⟨kcc, kcb, kfb, kcl, kfl⟩ := H7.out.cells
        go_wp2_with fail
        refine (HS6.out _ H7.out.cur).mono ?_
        rintro e w8 ⟨rfl, hc, hE⟩
        have H8 := Aside0.mk (H7.out.eff hE hc)
        have HB8 := Aside0.mk (hE.below HB7.out (H7.out.ge hg) hg)
        have HP8 : Aside0 (w8.heap[gp]? = some (.cells #[.string N, .string ⟨#[]⟩] 70 (0, 0))) := ⟨by
          obtain ⟨cs, hq⟩ := H7.out.cur.cells
          exact (hE.block _ (blk_lt HP7.out) (ne_types HP7.out hq (by decide))).trans HP7.out⟩
        clear hc hE hcc hcb hfb hcl hfl kcc kcb kfb kcl kfl hz7 hp0
        have hp1 : w8.cell? ⟨gp, 1, none⟩ = some (.string ⟨#[]⟩) := (blk_cell HP8.out 1).trans rfl
        have hf1 := blk_frozen HP8.out 1
        have HBgp : Aside0 (B ≤ gp) := ⟨hBgp⟩
        have H9 := Aside0.mk (H8.out.setp HP8.out HNP.out 1 (.string V))
        have HB9 := Aside0.mk (HB8.out.setCell (p := ⟨gp, 1, none⟩) hBgp (.string V))
        have HP9 : Aside0 ((w8.setCell ⟨gp, 1, none⟩ (.string V)).heap[gp]? = some (.cells #[.string N, .string V] 70 (0, 0))) := ⟨blk_set HP8.out 1 (.string V)⟩
        obtain ⟨z9, hz9⟩ : ∃ z9, w8.setCell ⟨gp, 1, none⟩ (.string V) = z9 := ⟨_, rfl⟩
        rw [hz9] at H9 HB9 HP9
        obtain ⟨hcc, hcb, hfb, hcl, hfl⟩ := H9.out.cells
        have H10 := Aside0.mk (H9.out.setb true)
        have HB10 := Aside0.mk (HB9.out.setCell (p := ⟨gb, 0, none⟩) hgb (.bool true))
        have HP10 := Aside0.mk (blk_far HP9.out (p := ⟨gb, 0, none⟩) (ne_types HP9.out H9.out.cb (by decide)) (.bool true))
        obtain ⟨z10, hz10⟩ : ∃ z10, z9.setCell ⟨gb, 0, none⟩ (.bool true) = z10 := ⟨_, rfl⟩
        rw [hz10] at H10 HB10 HP10
        obtain ⟨kcc, kcb, kfb, kcl, kfl⟩ := H10.out.cells
        have hq0 : z10.cell? ⟨gp, 0, none⟩ = some (.string N) := (blk_cell HP10.out 0).trans rfl
        have hq1 : z10.cell? ⟨gp, 1, none⟩ = some (.string V) := (blk_cell HP10.out 1).trans rfl
        go_wp2_with (at_builtin; refine print_append_cells (w0 := W0) B rfl (.tmp 34) (.tmp 36) 62 70 _ 2 32 rfl Try.underlying62 inf70 rfl (by decide) (by decide) _ l.length (prs l) [.string N, .string V] rfl rfl rfl (by intro u hu; simp at hu; rcases hu with rfl | rfl <;> rfl) H10.out.own HB10.out (H10.out.ge hg) hl ?_)
        intro v1 w11 hown hB11 hgr hat
        obtain ⟨A1, c1, hv1⟩ := own_slice hown
        subst hv1
        have hg11 := H10.out.grownl hgr
        have hcl11 : w11.cell? ⟨gl, 0, none⟩ = some (.slice A l.length c) := (blk_cell hg11 0).trans rfl
        have hfl11 := blk_frozen hg11 0
        have H12 := Aside0.mk (H10.out.setl (l1 := l ++ [(N, V)]) hgr (by rw [List.length_append, List.length_singleton, prs_snoc]; exact hown))
        have HB12 := Aside0.mk (hB11.setCell (p := ⟨gl, 0, none⟩) hgl (.slice A1 (l.length + 1) c1))
        clear hg11 hown hB11 hgr hat hcc hcb hfb hcl hfl kcc kcb kfb kcl kfl hq0 hq1 hz9 hz10 hp1 hf1
        obtain ⟨z12, hz12⟩ : ∃ z12, w11.setCell ⟨gl, 0, none⟩ (.slice A1 (l.length + 1) c1) = z12 := ⟨_, rfl⟩
        rw [hz12] at H12 HB12
        obtain ⟨hcc, hcb, hfb, hcl, hfl⟩ := H12.out.cells
        go_wp2
        go_ret
        exact ⟨rfl, _, H12.out, HB12.out⟩
end Go.Proofs.Ytbelgmfhaddhmaa.Q
/- The contract of params.Parse. -/
namespace Go.Proofs.Ytbelgmfhaddhmaa.Q
open Go.RowKit Go.Proofs.YtbelgmfhaddhmaaW.PrintWords
set_option linter.unusedVariables false

theorem ofs_size (L : ByteArray) (k : Nat) (h : k ≤ L.size) : (ofs L k).size = L.size - k := by rw [ofs, ByteArray.size_extract]; omega
theorem aft_size (L : ByteArray) : (aft L).size ≤ L.size := by rw [aft, ofs_size _ _ (spn_le _ _)]; omega
theorem qn_le (L : ByteArray) : (ofs L (qn L)).size ≤ L.size := by rw [ofs, ByteArray.size_extract]; omega
theorem valP_size (L : ByteArray) : (valP L).2.2.size ≤ L.size := by
  unfold valP
  split
  · rename_i h
    have h1 := aft_size L
    have h2 : (ofs (aft L) 1).size ≤ (aft L).size := by rw [ofs, ByteArray.size_extract]; omega
    have h3 := aft_size (ofs (aft L) 1)
    split
    · show (ofs _ _).size ≤ _
      have := qn_le (aft (ofs (aft L) 1))
      omega
    · show (ofs _ _).size ≤ _
      rw [ofs_size _ _ (spn_le _ _)]
      omega
  · exact Nat.le_refl _
theorem oneP_size (L : ByteArray) : (oneP L).left.size ≤ L.size ∧ ((oneP L).bad = false → (oneP L).left.size + 2 ≤ L.size) := by
  have h1 := aft_size L
  obtain ⟨L2, hL2⟩ : ∃ L2, L2 = (if isAt (aft L) 59 then ofs (aft L) 1 else aft L) := ⟨_, rfl⟩
  have h2 : L2.size ≤ (aft L).size ∧ (isAt (aft L) 59 → L2.size + 1 ≤ (aft L).size) := by
    rw [hL2]
    split
    · rename_i h
      have := h.1
      rw [ofs_size _ _ (by omega)]
      exact ⟨by omega, fun _ => by omega⟩
    · rename_i h
      exact ⟨Nat.le_refl _, fun h' => absurd h' h⟩
  have h3 := aft_size L2
  have h4 := spn_le tcI (aft L2)
  have h5 := valP_size (ofs (aft L2) (spn tcI (aft L2)))
  rw [ofs_size _ _ h4] at h5
  have e1 : (oneP L).left = (valP (ofs (aft L2) (spn tcI (aft L2)))).2.2 := by subst hL2; simp only [oneP]
  have e2 : (oneP L).bad = (!(decide (isAt (aft L) 59)) || (decide (spn tcI (aft L2) = 0)) || !(valP (ofs (aft L2) (spn tcI (aft L2)))).2.1) := by subst hL2; simp only [oneP]
  rw [e1, e2]
  refine ⟨by omega, fun hb => ?_⟩
  simp only [Bool.or_eq_false_iff, Bool.not_eq_false', decide_eq_true_eq, decide_eq_false_iff_not] at hb
  have := h2.2 hb.1.1
  omega
/-- The parameters behind a word; none: something is wrong. -/
def pars : Nat → ByteArray → List (ByteArray × ByteArray) → Option (List (ByteArray × ByteArray))
  | 0, _, _ => none
  | n + 1, L, l => if L.size = 0 then some l else if (oneP L).bad = true then none else pars n (oneP L).left (l ++ [((oneP L).name, (oneP L).value)])
theorem pars_more : ∀ (n m : Nat) (L : ByteArray) (l : List (ByteArray × ByteArray)), L.size < n → n ≤ m → pars m L l = pars n L l := by
  intro n
  induction n with
  | zero => intro m L l h; omega
  | succ n ih =>
    intro m L l h hm
    obtain ⟨m, rfl⟩ : ∃ m', m = m' + 1 := ⟨m - 1, by omega⟩
    simp only [pars]
    by_cases h0 : L.size = 0
    · rw [if_pos h0, if_pos h0]
    · rw [if_neg h0, if_neg h0]
      by_cases hb : (oneP L).bad = true
      · rw [if_pos hb, if_pos hb]
      · rw [if_neg hb, if_neg hb]
        have := (oneP_size L).2 (by simpa using hb)
        exact ih m _ _ (by omega) (by omega)
/-- The parameters, all of them. -/
def parsAll (L : ByteArray) (l : List (ByteArray × ByteArray)) : Option (List (ByteArray × ByteArray)) := pars (L.size + 1) L l
theorem parsAll_end (L : ByteArray) (l : List (ByteArray × ByteArray)) (h : L.size = 0) : parsAll L l = some l := by rw [parsAll, pars, if_pos h]
theorem parsAll_bad (L : ByteArray) (l : List (ByteArray × ByteArray)) (h : L.size ≠ 0) (hb : (oneP L).bad = true) : parsAll L l = none := by rw [parsAll, pars, if_neg h, if_pos hb]
theorem parsAll_step (L : ByteArray) (l : List (ByteArray × ByteArray)) (h : L.size ≠ 0) (hb : (oneP L).bad = false) : parsAll L l = parsAll (oneP L).left (l ++ [((oneP L).name, (oneP L).value)]) := by
  have hs := (oneP_size L).2 hb
  rw [parsAll, pars, if_neg h, if_neg (by rw [hb]; simp)]
  exact pars_more _ _ _ _ (Nat.lt_succ_self _) (by omega)
/-- What Parse tells: the word, the list, the error. -/
def parseP (s : ByteArray) : ByteArray × List (ByteArray × ByteArray) × Int :=
  if s.size = 0 then (⟨#[]⟩, [], 2)
  else if spn tcI s = 0 then (⟨#[]⟩, [], 3)
  else match parsAll (ofs s (spn tcI s)) [] with
    | some l => (oneP.lowS' (upto s (spn tcI s)), l, 0)
    | none => (⟨#[]⟩, [], 3)
end Go.Proofs.Ytbelgmfhaddhmaa.Q
/- The walk of params.Parse. -/
namespace Go.Proofs.Ytbelgmfhaddhmaa.Q
open Go.RowKit Go.Proofs.YtbelgmfhaddhmaaW.PrintWords
set_option linter.unusedVariables false

theorem results_tct {fn : Func} {p u q : Tmp} {ty : TypeId} (h : fn.results = #[.tmp u, .cell p ty, .tmp q]) (tmps : Array Value) (w : World) (g : Nat) (t e : TypeId) (A : Option Addr) (n c : Nat) (fr : Nat × Nat)
    (hp : tmps.getD p undef = .pointer (some ⟨g, 0, none⟩)) (hg : w.heap[g]? = some (.cells #[.slice A n c] t fr)) (hu : Try.prog.underlying ty = some (.slice e)) :
    (results fn tmps).run Try.prog w = .ok (.tuple #[tmps.getD u undef, .slice A n c, tmps.getD q undef]) w := by
  have hc : w.cell? ⟨g, 0, none⟩ = some (.slice A n c) := (cell_of_row w g 0 _ t fr hg).trans rfl
  have ha : (isAgg ty).run Try.prog w = .ok false w := by
    unfold isAgg
    simp [run_underlying hu, Result.andThen]
  have hl : (loadVar ty ⟨g, 0, none⟩).run Try.prog w = .ok (.slice A n c) w := by
    unfold loadVar
    simp [ha, hc, Result.andThen]
  have hp' : tmps[p]?.getD undef = .pointer (some ⟨g, 0, none⟩) := by
    rw [← hp]; simp
  simp only [results, h]
  simp [Result.andThen, hp', asAddr, hl]
/-- What Parse comes to. -/
def ParsePost (s : ByteArray) (W : World) (e : Ending) (w' : World) : Prop :=
  ∃ v, e = .returned (.tuple #[.string (parseP s).1, v, .int .i64 (parseP s).2.2]) ∧ w'.ownsRow W.heap.size 70 2 v (parseP s).2.1.length (prs (parseP s).2.1) ∧ Below W.heap.size W w'
/-- Where Parse's loop stands. -/
structure PInv (s N : ByteArray) (bad : Bool) (L : ByteArray) (l : List (ByteArray × ByteArray)) : Prop where
  no : bad = true → parseP s = (⟨#[]⟩, [], 3)
  yes : bad = false → parseP s = match parsAll L l with | some l => (N, l, 0) | none => (⟨#[]⟩, [], 3)
  len : bad = false → l.length + L.size ≤ s.size
theorem PInv.step {s N : ByteArray} {L : ByteArray} {l : List (ByteArray × ByteArray)} (h : PInv s N false L l) (h0 : L.size ≠ 0) : PInv s N (oneP L).bad (oneP L).left (l ++ [((oneP L).name, (oneP L).value)]) := by
  cases hb : (oneP L).bad with
  | true => exact ⟨fun _ => by rw [h.yes rfl, parsAll_bad L l h0 hb], fun h => (by cases h), fun h => (by cases h)⟩
  | false =>
    refine ⟨fun h => (by cases h), fun _ => by rw [h.yes rfl, parsAll_step L l h0 hb], fun _ => ?_⟩
    have h1 := (oneP_size L).2 hb
    have h2 := h.len rfl
    rw [List.length_append, List.length_singleton]; omega
set_option maxHeartbeats 4000000 in
set_option maxRecDepth 100000 in
theorem parse_any (s : ByteArray) (hs : s.size ≤ 100000000) (W : World) : Calls Try.prog 63 #[.string s] W (ParsePost s W) := by
  by_cases h0 : s.size = 0
  · have he := empty_yes h0
    have hp : parseP s = (⟨#[]⟩, [], 2) := by rw [parseP, if_pos h0]
    have HP := Lib.hid hp
    clear hp h0
    go_enter Try.func63, Try.ntmps63
    go_wp2
    refine bodyPost_ret (results_tct rfl _ _ W.heap.size 62 70 none 0 0 (0, 0) rfl (blk_new _ _) Try.underlying62) rfl ?_
    unfold ParsePost
    rw [HP.out]
    exact ⟨_, rfl, own_nil _ _ _ _, below_alloc (Below.refl _ _) _⟩
  · have he := empty_no h0
    obtain ⟨N, hN⟩ : ∃ N, N = oneP.lowS' (upto s (spn tcI s)) := ⟨_, rfl⟩
    obtain ⟨L, hL⟩ : ∃ L, L = ofs s (spn tcI s) := ⟨_, rfl⟩
    have HTK : Aside0 (∀ w {g : Nat}, CurL w g s → Calls Try.prog 51 #[.pointer (some ⟨g, 0, none⟩)] w fun e w' => e = .returned (.string (upto s (spn tcI s))) ∧ CurL w' g L ∧ Eff g w w') := ⟨fun w g h => by rw [hL]; exact token_any w g s h⟩
    have HLW : Aside0 (∀ w, Calls Try.prog 23 #[.string (upto s (spn tcI s))] w fun e w' => e = .returned (.string N) ∧ Below w.heap.size w w') := ⟨fun w => by
      rw [hN]
      exact lower_any _ (by rw [upto_size _ _ (spn_le _ _)]; have := spn_le tcI s; omega) w⟩
    obtain ⟨T, hT⟩ : ∃ T, T = upto s (spn tcI s) := ⟨_, rfl⟩
    rw [← hT] at HTK HLW
    have hNe0 : N.toList.isEmpty = decide (spn tcI s = 0) := by
      have hz : N.size = spn tcI s := by rw [hN, lower_empty, upto_size _ _ (spn_le _ _)]
      by_cases h1 : spn tcI s = 0
      · rw [decide_eq_true h1]; exact empty_yes (by omega)
      · rw [decide_eq_false h1]; exact empty_no (by omega)
    obtain ⟨kz, hkz⟩ : ∃ kz, kz = decide (spn tcI s = 0) := ⟨_, rfl⟩
    rw [← hkz] at hNe0
    have HPB : Aside0 (kz = true → parseP s = (⟨#[]⟩, [], 3)) := ⟨fun h => by
      rw [hkz, decide_eq_true_eq] at h
      rw [parseP, if_neg h0, if_pos h]⟩
    have HPS : Aside0 (kz = false → parseP s = match parsAll L [] with | some l => (N, l, 0) | none => (⟨#[]⟩, [], 3)) := ⟨fun h => by
      rw [hkz, decide_eq_false_iff_not] at h
      rw [parseP, if_neg h0, if_neg h, hN, hL]
      all_goals (cases parsAll (ofs s (spn tcI s)) [] <;> rfl)⟩
    have HLS : Aside0 (L.size ≤ s.size) := ⟨by rw [hL, ofs_size _ _ (spn_le _ _)]; omega⟩
    clear hN hL hT hkz
    go_enter Try.func63, Try.ntmps63
    go_wp2_with fail
    obtain ⟨z1, hz1⟩ : ∃ z1, W.alloc (.cells #[.slice none 0 0] 62 (0, 0)) = z1 := ⟨_, rfl⟩
    have HL1 : z1.heap[W.heap.size]? = some (.cells #[.slice none 0 0] 62 (0, 0)) := by rw [← hz1]; exact blk_new _ _
    have HB1 : Below W.heap.size W z1 := by rw [← hz1]; exact below_alloc (Below.refl _ _) _
    obtain ⟨gl, hgl⟩ : ∃ gl, W.heap.size = gl := ⟨_, rfl⟩
    have hglB : W.heap.size ≤ gl := by omega
    rw [hz1]
    rw [hgl] at HL1 ⊢
    refine (new_any s (by omega) _).mono ?_
    rintro e w2 ⟨rfl, hc, hb⟩
    obtain ⟨g, hg⟩ : ∃ g, z1.heap.size = g := ⟨_, rfl⟩
    have hgB : W.heap.size ≤ g := by rw [← hg]; exact HB1.size
    have HL2 := (hb.block _ (blk_lt HL1)).trans HL1
    have HB2 := Aside0.mk (below_step HB1 hb)
    rw [hg] at hc ⊢
    obtain ⟨z3, hz3⟩ : ∃ z3, w2.alloc (.cells #[.pointer (some ⟨g, 0, none⟩)] 48 (0, 0)) = z3 := ⟨_, rfl⟩
    have hba : Below w2.heap.size w2 z3 := by rw [← hz3]; exact below_alloc (Below.refl _ _) _
    have HC3 := Aside0.mk (hc.below hba)
    have HL3 := Aside0.mk ((hba.block _ (blk_lt HL2)).trans HL2)
    have HG3 : Aside0 (z3.heap[w2.heap.size]? = some (.cells #[.pointer (some ⟨g, 0, none⟩)] 48 (0, 0))) := ⟨by rw [← hz3]; exact blk_new _ _⟩
    have HB3 := Aside0.mk (below_step HB2.out hba)
    have hgcB : W.heap.size ≤ w2.heap.size := HB2.out.size
    clear hz1 hgl hg hc hb HL1 HB1 HL2 hba
    go_upto_region 4 with (fail)
    try rw [hz3]
    obtain ⟨gc, hgc⟩ : ∃ gc, w2.heap.size = gc := ⟨_, rfl⟩
    rw [hgc] at HG3 hgcB ⊢
    clear hz3 hgc
    have hcc := (blk_cell HG3.out 0).trans rfl
    go_wp2_with fail
    refine (HTK.out _ HC3.out).mono ?_
    rintro e w4 ⟨rfl, hc, hE⟩
    obtain ⟨cq, hq⟩ := HC3.out.cells
    have HC4 := Aside0.mk hc
    have HB4 := Aside0.mk (hE.below HB3.out HB3.out.size hgB)
    have HL4 := Aside0.mk ((hE.block _ (blk_lt HL3.out) (ne_types HL3.out hq (by decide))).trans HL3.out)
    have HG4 := Aside0.mk ((hE.block _ (blk_lt HG3.out) (ne_types HG3.out hq (by decide))).trans HG3.out)
    clear hc hE hq hcc
    go_wp2_with fail
    refine (HLW.out _).mono ?_
    rintro e w5 ⟨rfl, hb⟩
    have HC5 := Aside0.mk (HC4.out.below hb)
    have HB5 := Aside0.mk (below_step HB4.out hb)
    have HL5 := Aside0.mk (blk_below HL4.out hb)
    have HG5 := Aside0.mk (blk_below HG4.out hb)
    clear hb
    clear hgcB
    have hgbB : W.heap.size ≤ w5.heap.size := HB5.out.size
    cases kz with
    | true =>
      have hNe : N.toList.isEmpty = true := hNe0
      clear hNe0
      have hba : Below w5.heap.size w5 (w5.alloc (.cells #[.bool true] 4 (0, 0))) := below_alloc (Below.refl _ _) _
      have HPT : Aside0 (PSt (w5.alloc (.cells #[.bool true] 4 (0, 0))) W.heap.size gc w5.heap.size gl g L true (.slice none 0 0) []) := ⟨⟨(hba.block _ (blk_lt HG5.out)).trans HG5.out, blk_new _ _, (hba.block _ (blk_lt HL5.out)).trans HL5.out, HC5.out.below hba, own_nil _ _ _ _⟩⟩
      have HB6 := Aside0.mk (below_step HB5.out hba)
      go_upto_region 6 with (fail)
      obtain ⟨z6, hz6⟩ : ∃ z6, w5.alloc (.cells #[.bool true] 4 (0, 0)) = z6 := ⟨_, rfl⟩
      rw [hz6] at HPT HB6 ⊢
      obtain ⟨gb, hgb⟩ : ∃ gb, w5.heap.size = gb := ⟨_, rfl⟩
      rw [hgb] at HPT hgbB ⊢
      clear hz6 hgb hba
      obtain ⟨hcc, hcb, hfb, hcl, hfl⟩ := HPT.out.cells
      have HPT7 := HPT
      have HB7 := HB6
      go_wp2
      have HINI : Aside0 (PInv s N true L []) := ⟨⟨fun _ => HPB.out (by first | rfl | trivial), fun h => (by cases h), fun _ => by have := HLS.out; simpa using this⟩⟩
      go_loopg [8] s.size (fun k v8 wr => ∃ (L' : ByteArray) (bad : Bool) (v : Value) (l : List (ByteArray × ByteArray)), v8 = .bool (!bad && !L'.toList.isEmpty) ∧ Aside0 (bad = false → L'.size ≤ k) ∧ Aside0 (PInv s N bad L' l) ∧ Aside0 (PSt wr W.heap.size gc gb gl g L' bad v l) ∧ Aside0 (Below W.heap.size W wr))
      case atStart => exact ⟨L, true, .slice none 0 0, [], rfl, ⟨fun _ => HLS.out⟩, HINI, HPT7, HB7⟩
      case round =>
        clear HPT7 HB7 HINI HPT HB6
        obtain ⟨L', bad, v, l, rfl, HK, HI, HP, HB⟩ := hrel
        obtain ⟨A, c, hv⟩ := own_slice HP.out.own
        subst hv
        obtain ⟨hcc, hcb, hfb, hcl, hfl⟩ := HP.out.cells
        cases bad with
        | true =>
          rw [show (!true && !L'.toList.isEmpty) = false from rfl]
          go_wp2
          refine bodyPost_ret (results_tct rfl _ _ gl 62 70 none 0 0 (0, 0) rfl (blk_set HP.out.cl 0 (.slice none 0 0)) Try.underlying62) rfl ?_
          unfold ParsePost
          rw [HI.out.no rfl]
          exact ⟨_, rfl, own_nil _ _ _ _, HB.out.setCell hglB _⟩
        | false =>
          by_cases hz : L'.size = 0
          · have hLe := empty_yes hz
            have hpp := HI.out.yes rfl
            rw [parsAll_end L' l hz] at hpp
            have HPP := Lib.hid hpp
            clear hpp hz
            rw [show (!false && !L'.toList.isEmpty) = false by rw [hLe]; rfl]
            go_wp2
            go_region
            go_wp2
            refine bodyPost_ret (results_tct rfl _ _ gl 62 70 A l.length c (0, 0) rfl (blk_set (w := wr.drew) HP.out.cl 0 (.slice A l.length c)) Try.underlying62) rfl ?_
            unfold ParsePost
            rw [HPP.out]
            refine ⟨_, rfl, ?_, (below_drew HB.out).setCell hglB _⟩
            exact own_eff70 (w := wr.drew) (HP.out.below (below_drew (Below.refl _ _))).own (fun k _ hk => Below.heap_setCell wr.drew ⟨gl, 0, none⟩ _ k hk) HP.out.cl (by decide)
          · have hLe := empty_no hz
            have HNX := Aside0.mk (HI.out.step hz)
            have hkk := HK.out rfl
            have hll := HI.out.len rfl
            have hsz := oneP_size L'
            have HSM : Aside0 (gk - 1 < gk ∧ ((oneP L').bad = false → (oneP L').left.size ≤ gk - 1)) := ⟨by omega, fun h => by have := hsz.2 h; omega⟩
            have hbig : (l.length + 1) * 32 ≤ 140737488355328 := by omega
            clear hkk hll hsz hz hcc hcb hfb hcl hfl
            rw [show (!false && !L'.toList.isEmpty) = true by rw [hLe]; rfl]
            go_wp2_with fail
            refine (one_any W wr W.heap.size gc gb gl g L' _ l HP.out HB.out HB.out.size hgB hgbB hglB hbig).mono ?_
            rintro e w9 ⟨rfl, v', HP9, HB9⟩
            have HP9 := Aside0.mk HP9
            have HB9 := Aside0.mk HB9
            obtain ⟨o, ho⟩ : ∃ o, o = oneP L' := ⟨_, rfl⟩
            rw [← ho] at HNX HSM HP9 ⊢
            clear ho
            go_wp2
            go_roundg (gk - 1)
            case measure => exact HSM.out.1
            case rel => exact ⟨o.left, o.bad, v', _, rfl, ⟨HSM.out.2⟩, HNX, HP9, HB9⟩
    | false =>
      have hNe : N.toList.isEmpty = false := hNe0
      clear hNe0
      have hba : Below w5.heap.size w5 (w5.alloc (.cells #[.bool false] 4 (0, 0))) := below_alloc (Below.refl _ _) _
      have HPT : Aside0 (PSt (w5.alloc (.cells #[.bool false] 4 (0, 0))) W.heap.size gc w5.heap.size gl g L false (.slice none 0 0) []) := ⟨⟨(hba.block _ (blk_lt HG5.out)).trans HG5.out, blk_new _ _, (hba.block _ (blk_lt HL5.out)).trans HL5.out, HC5.out.below hba, own_nil _ _ _ _⟩⟩
      have HB6 := Aside0.mk (below_step HB5.out hba)
      go_upto_region 6 with (fail)
      obtain ⟨z6, hz6⟩ : ∃ z6, w5.alloc (.cells #[.bool false] 4 (0, 0)) = z6 := ⟨_, rfl⟩
      rw [hz6] at HPT HB6 ⊢
      obtain ⟨gb, hgb⟩ : ∃ gb, w5.heap.size = gb := ⟨_, rfl⟩
      rw [hgb] at HPT hgbB ⊢
      clear hz6 hgb hba
      obtain ⟨hcc, hcb, hfb, hcl, hfl⟩ := HPT.out.cells
      go_wp2_with fail
      refine (done_any _ _ _ HPT.out.cur).mono ?_
      rintro e w7 ⟨rfl, hb⟩
      have HPT7 := Aside0.mk (HPT.out.below hb)
      have HB7 := Aside0.mk (below_step HB6.out hb)
      clear hb hcc hcb hfb hcl hfl
      go_wp2
      have HINI : Aside0 (PInv s N false L []) := ⟨⟨fun h => (by cases h), fun _ => HPS.out (by first | rfl | trivial), fun _ => by have := HLS.out; simpa using this⟩⟩
      go_loopg [8] s.size (fun k v8 wr => ∃ (L' : ByteArray) (bad : Bool) (v : Value) (l : List (ByteArray × ByteArray)), v8 = .bool (!bad && !L'.toList.isEmpty) ∧ Aside0 (bad = false → L'.size ≤ k) ∧ Aside0 (PInv s N bad L' l) ∧ Aside0 (PSt wr W.heap.size gc gb gl g L' bad v l) ∧ Aside0 (Below W.heap.size W wr))
      case atStart => exact ⟨L, false, .slice none 0 0, [], rfl, ⟨fun _ => HLS.out⟩, HINI, HPT7, HB7⟩
      case round =>
        clear HPT7 HB7 HINI HPT HB6
        obtain ⟨L', bad, v, l, rfl, HK, HI, HP, HB⟩ := hrel
        obtain ⟨A, c, hv⟩ := own_slice HP.out.own
        subst hv
        obtain ⟨hcc, hcb, hfb, hcl, hfl⟩ := HP.out.cells
        cases bad with
        | true =>
          rw [show (!true && !L'.toList.isEmpty) = false from rfl]
          go_wp2
          refine bodyPost_ret (results_tct rfl _ _ gl 62 70 none 0 0 (0, 0) rfl (blk_set HP.out.cl 0 (.slice none 0 0)) Try.underlying62) rfl ?_
          unfold ParsePost
          rw [HI.out.no rfl]
          exact ⟨_, rfl, own_nil _ _ _ _, HB.out.setCell hglB _⟩
        | false =>
          by_cases hz : L'.size = 0
          · have hLe := empty_yes hz
            have hpp := HI.out.yes rfl
            rw [parsAll_end L' l hz] at hpp
            have HPP := Lib.hid hpp
            clear hpp hz
            rw [show (!false && !L'.toList.isEmpty) = false by rw [hLe]; rfl]
            go_wp2
            go_region
            go_wp2
            refine bodyPost_ret (results_tct rfl _ _ gl 62 70 A l.length c (0, 0) rfl (blk_set (w := wr.drew) HP.out.cl 0 (.slice A l.length c)) Try.underlying62) rfl ?_
            unfold ParsePost
            rw [HPP.out]
            refine ⟨_, rfl, ?_, (below_drew HB.out).setCell hglB _⟩
            exact own_eff70 (w := wr.drew) (HP.out.below (below_drew (Below.refl _ _))).own (fun k _ hk => Below.heap_setCell wr.drew ⟨gl, 0, none⟩ _ k hk) HP.out.cl (by decide)
          · have hLe := empty_no hz
            have HNX := Aside0.mk (HI.out.step hz)
            have hkk := HK.out rfl
            have hll := HI.out.len rfl
            have hsz := oneP_size L'
            have HSM : Aside0 (gk - 1 < gk ∧ ((oneP L').bad = false → (oneP L').left.size ≤ gk - 1)) := ⟨by omega, fun h => by have := hsz.2 h; omega⟩
            have hbig : (l.length + 1) * 32 ≤ 140737488355328 := by omega
            clear hkk hll hsz hz hcc hcb hfb hcl hfl
            rw [show (!false && !L'.toList.isEmpty) = true by rw [hLe]; rfl]
            go_wp2_with fail
            refine (one_any W wr W.heap.size gc gb gl g L' _ l HP.out HB.out HB.out.size hgB hgbB hglB hbig).mono ?_
            rintro e w9 ⟨rfl, v', HP9, HB9⟩
            have HP9 := Aside0.mk HP9
            have HB9 := Aside0.mk HB9
            obtain ⟨o, ho⟩ : ∃ o, o = oneP L' := ⟨_, rfl⟩
            rw [← ho] at HNX HSM HP9 ⊢
            clear ho
            go_wp2
            go_roundg (gk - 1)
            case measure => exact HSM.out.1
            case rel => exact ⟨o.left, o.bad, v', _, rfl, ⟨HSM.out.2⟩, HNX, HP9, HB9⟩
end Go.Proofs.Ytbelgmfhaddhmaa.Q
/- The contract of params.Parse in the print's form. -/
namespace Go.Proofs.Ytbelgmfhaddhmaa.V
open Go.RowKit Go.Proofs.YtbelgmfhaddhmaaW.PrintWords Go.Proofs.Ytbelgmfhaddhmaa.Q
set_option linter.unusedVariables false
def toS (p : ByteArray × ByteArray) : S70 := ⟨p.1, p.2⟩
def params_Parse.f (a0 : ByteArray) : Option (ByteArray × List S70 × Int) := if a0.size ≤ 100000000 then some ((parseP a0).1, (parseP a0).2.1.map toS, (parseP a0).2.2) else none
theorem prs_reps70 {w : World} {b : Nat} {ok : Nat → Prop} (l : List (ByteArray × ByteArray)) : Reps (k70.M w b ok) 2 (l.map toS) (prs l) := by
  have h : ∀ l : List (ByteArray × ByteArray), Reps (k70.M w b ok) 2 (l.reverse.map toS) (prs l.reverse) := by
    intro l
    induction l with
    | nil => exact Reps.none _ _
    | cons p l ih =>
      rw [List.reverse_cons, List.map_append]
      have e : prs (l.reverse ++ [p]) = prs l.reverse ++ [.string p.1, .string p.2] := prs_snoc _ p.1 p.2
      rw [e]
      exact ih.snoc (k70_mkM w b ok (toS p)) rfl
  have := h l.reverse
  rwa [List.reverse_reverse] at this
theorem R70_of_own {w : World} {b : Nat} {v : Value} {l : List (ByteArray × ByteArray)} (h : w.ownsRow b 70 2 v l.length (prs l)) : Kd.R k70 70 w b (fun _ => True) v (l.map toS) := by
  refine ⟨fun _ _ => trivial, prs l, ?_, ?_⟩
  · rw [List.length_map]; exact h
  · exact prs_reps70 l
theorem params_Parse.calls (a0 : ByteArray) (r1 : ByteArray) (r2 : List S70) (r3 : Int) (w : World) (h : params_Parse.f a0 = some (r1, r2, r3)) :
    Calls Try.prog 63 #[.string a0] w fun e w' => ∃ v1_ : Value, e = .returned (.tuple #[.string r1, v1_, .int .i64 r3]) ∧ Kd.R k70 70 w' w.heap.size (fun _ => True) v1_ r2 ∧ Below w.heap.size w w' := by
  unfold params_Parse.f at h
  split at h
  · rename_i hs
    simp only [Option.some.injEq, Prod.mk.injEq] at h
    obtain ⟨rfl, rfl, rfl⟩ := h
    refine (parse_any a0 hs w).mono ?_
    rintro e w' ⟨v, h1, h2, h3⟩
    exact ⟨v, h1, R70_of_own h2, h3⟩
  · cases h
end Go.Proofs.Ytbelgmfhaddhmaa.V
