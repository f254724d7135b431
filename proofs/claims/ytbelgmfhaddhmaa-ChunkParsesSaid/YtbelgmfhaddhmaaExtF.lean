/- The contract of the cursor's Quoted. -/
import Derived.Test.YtbelgmfhaddhmaaExtE
namespace Go.Proofs.Ytbelgmfhaddhmaa.Q
open Go.RowKit Go.Proofs.YtbelgmfhaddhmaaW.PrintWords
set_option linter.unusedVariables false

/-- A quoted text's plain one, and how many octets it had. -/
def qt : List Int → List Int → Nat → Option (List Int × Nat)
  | _, [], _ => none
  | out, b :: cs, n => if b = 34 then some (out, n + 1) else if b = 92 then (match cs with | [] => none | c :: cs' => if vaI c = true then qt (out ++ [c]) cs' (n + 2) else none) else if vaI b = true then qt (out ++ [b]) cs (n + 1) else none
theorem qt_cons (out : List Int) (b : Int) (cs : List Int) (n : Nat) : qt out (b :: cs) n = if b = 34 then some (out, n + 1) else if b = 92 then (match cs with | [] => none | c :: cs' => if vaI c = true then qt (out ++ [c]) cs' (n + 2) else none) else if vaI b = true then qt (out ++ [b]) cs (n + 1) else none := qt.eq_def _ _ _
def quoted (L : ByteArray) : Option (List Int × Nat) := match bytesOf L with | [] => none | b :: cs => if b = 34 then qt [] cs 1 else none
def qs (L : ByteArray) : ByteArray := match quoted L with | some x => strOfNums x.1 | none => ⟨#[]⟩
def qn (L : ByteArray) : Nat := match quoted L with | some x => x.2 | none => 0
structure QtAt (L : ByteArray) (i : Nat) (out : List Int) : Prop where
  tot : quoted L = qt out ((bytesOf L).drop i) i
  le : i ≤ L.size
  pos : 1 ≤ i
  len : out.length ≤ i
theorem QtAt.mark {L : ByteArray} {i : Nat} {out : List Int} (h : QtAt L i out) (hi : i < L.size) (hb : bt L (i : Int) = 34) : quoted L = some (out, i + 1) := by
  rw [h.tot, drop_bt L i hi, qt_cons, if_pos hb]
theorem QtAt.slashEnd {L : ByteArray} {i : Nat} {out : List Int} (h : QtAt L i out) (hi : i + 1 = L.size) (hb : bt L (i : Int) = 92) : quoted L = none := by
  rw [h.tot, drop_bt L i (by omega), List.drop_eq_nil_of_le (by rw [bytesOf_length]; omega), qt_cons, if_neg (by rw [hb]; decide), if_pos hb]
theorem QtAt.slash {L : ByteArray} {i : Nat} {out : List Int} (h : QtAt L i out) (hi : i + 1 < L.size) (hb : bt L (i : Int) = 92) (hv : vaI (bt L ((i + 1 : Nat) : Int)) = true) : QtAt L (i + 2) (out ++ [bt L ((i + 1 : Nat) : Int)]) := by
  refine ⟨?_, by omega, by omega, by rw [List.length_append, List.length_singleton]; have := h.len; omega⟩
  rw [h.tot, drop_bt L i (by omega), drop_bt L (i + 1) hi, qt_cons, if_neg (by rw [hb]; decide), if_pos hb]
  exact if_pos hv
theorem QtAt.slashBad {L : ByteArray} {i : Nat} {out : List Int} (h : QtAt L i out) (hi : i + 1 < L.size) (hb : bt L (i : Int) = 92) (hv : vaI (bt L ((i + 1 : Nat) : Int)) = false) : quoted L = none := by
  rw [h.tot, drop_bt L i (by omega), drop_bt L (i + 1) hi, qt_cons, if_neg (by rw [hb]; decide), if_pos hb]
  exact if_neg (by rw [hv]; simp)
theorem QtAt.plain {L : ByteArray} {i : Nat} {out : List Int} (h : QtAt L i out) (hi : i < L.size) (h1 : bt L (i : Int) ≠ 34) (h2 : bt L (i : Int) ≠ 92) (hv : vaI (bt L (i : Int)) = true) : QtAt L (i + 1) (out ++ [bt L (i : Int)]) := by
  refine ⟨?_, by omega, by omega, by rw [List.length_append, List.length_singleton]; have := h.len; omega⟩
  rw [h.tot, drop_bt L i (by omega), qt_cons, if_neg h1, if_neg h2, if_pos hv]
theorem QtAt.plainBad {L : ByteArray} {i : Nat} {out : List Int} (h : QtAt L i out) (hi : i < L.size) (h1 : bt L (i : Int) ≠ 34) (h2 : bt L (i : Int) ≠ 92) (hv : vaI (bt L (i : Int)) = false) : quoted L = none := by
  rw [h.tot, drop_bt L i (by omega), qt_cons, if_neg h1, if_neg h2, if_neg (by rw [hv]; simp)]
theorem QtAt.over {L : ByteArray} {i : Nat} {out : List Int} (h : QtAt L i out) (hi : ¬ i < L.size) : quoted L = none := by
  rw [h.tot, List.drop_eq_nil_of_le (by rw [bytesOf_length]; omega)]
  rfl
theorem QtAt.first {L : ByteArray} (h0 : 0 < L.size) (hb : bt L 0 = 34) : QtAt L 1 [] := by
  have h := drop_bt L 0 h0
  rw [List.drop_zero] at h
  refine ⟨?_, h0, Nat.le_refl _, Nat.zero_le _⟩
  rw [quoted, h]
  exact if_pos hb
theorem quoted_not {L : ByteArray} (hb : 0 < L.size → bt L 0 ≠ 34) : quoted L = none := by
  rw [quoted]
  cases hq : bytesOf L with
  | nil => rfl
  | cons b cs =>
    have h0 : 0 < L.size := by rw [← bytesOf_length, hq, List.length_cons]; omega
    have h := drop_bt L 0 h0
    rw [List.drop_zero, hq] at h
    injection h with h1 h2
    rw [h1]
    exact if_neg (hb h0)
/-- What Quoted comes to. -/
def QPost (L : ByteArray) (w : World) (g : Nat) (e : Ending) (w' : World) : Prop :=
  e = .returned (.tuple #[.string (qs L), .bool (quoted L).isSome]) ∧ CurL w' g (ofs L (qn L)) ∧ Eff g w w'
theorem QPost.none {L : ByteArray} {w w' : World} {g : Nat} (hq : quoted L = none) (h : CurL w' g L) (hE : Eff g w w') : QPost L w g (.returned (.tuple #[.string ⟨#[]⟩, .bool false])) w' := by
  have e1 : qs L = ⟨#[]⟩ := by rw [qs, hq]
  have e2 : qn L = 0 := by rw [qn, hq]
  refine ⟨by rw [e1, hq]; rfl, ?_, hE⟩
  rw [e2, ofs, ByteArray.extract_zero_size]; exact h
theorem QPost.some {L : ByteArray} {w w' : World} {g k : Nat} {out : List Int} (hq : quoted L = some (out, k)) (h : CurL w' g (ofs L k)) (hE : Eff g w w') : QPost L w g (.returned (.tuple #[.string (strOfNums out), .bool true])) w' := by
  have e1 : qs L = strOfNums out := by rw [qs, hq]
  have e2 : qn L = k := by rw [qn, hq]
  refine ⟨by rw [e1, hq]; rfl, ?_, hE⟩
  rw [e2]; exact h
theorem bytesOf_one (b : Int) (h : 0 ≤ b ∧ b ≤ 255) : bytesOf (strOfNums [b]) = [b] := by
  simp only [strOfNums, bytesOf, List.map_cons, List.map_nil]
  have e : ((UInt8.ofNat b.toNat).toNat : Int) = b := by rw [UInt8.toNat_ofNat']; omega
  rw [e]
theorem value_one (b : Int) (h : 0 ≤ b ∧ b ≤ 255) : octet_Value.f (strOfNums [b]) = some (vaI b) := by
  rw [octet_Value.f, valueI, bytesOf_one b h]; simp
theorem conv_one (b : Int) (W : World) : (convert 73 9 (.slice (some ⟨W.heap.size, 0, none⟩) 1 1)).run Try.prog (W.alloc (.cells #[.int .u8 b] 5 (0, 0))) = .ok (.string (strOfNums [b])) (W.alloc (.cells #[.int .u8 b] 5 (0, 0))) := by
  refine string_of_reads Try.underlying73 Try.underlying5 Try.underlying9 ⟨rfl, by decide, fun _ => ⟨_, rfl, fun j hj => ?_⟩⟩
  obtain rfl : j = 0 := by omega
  exact cell_one_new _ _ _ 0 _ rfl
theorem own_eff {w w' : World} {B n g size : Nat} {v : Value} {xs : List Value} {cs : Array Value} (h : w.ownsRow B 5 size v n xs) (hE : Eff g w w') (hg : w.heap[g]? = some (.cells cs 87 (0, 0))) : w'.ownsRow B 5 size v n xs :=
  own_move h (fun k hk => by
    obtain ⟨cells, hc⟩ := own_typed h k hk
    refine hE.block k (blk_lt hc) (fun e => ?_)
    subst e
    rw [hc] at hg
    injection hg with hg
    injection hg with _ h3
    exact absurd h3 (by decide))
theorem inf5 : (Try.prog.info? 5).map (fun i => (i.zero, i.size, i.bytes)) = some (some (.int .u8 0), 1, 1) := by kernel_rfl
set_option maxHeartbeats 4000000 in
set_option maxRecDepth 100000 in
theorem quoted_any (w : World) (g : Nat) (L : ByteArray) (h : CurL w g L) : Calls Try.prog 53 #[.pointer (some ⟨g, 0, none⟩)] w (QPost L w g) := by
  by_cases hc : 0 < L.size ∧ bt L 0 = 34
  · obtain ⟨h0, h34⟩ := hc
    have he : L.toList.isEmpty = false := by
      cases hq : L.toList.isEmpty with
      | false => rfl
      | true => exact absurd (by rw [Lib.toList_data] at hq; have := List.isEmpty_iff.1 hq; have e := data_length L; rw [this] at e; exact e.symm) (Nat.ne_of_gt h0)
    have hx : ∀ h : 0 < L.size, ((L[0]'h).toNat : Int) = 34 := fun h => (bt_at L 0 h).trans h34
    have h1 : (0 : Int) < (L.size : Int) := by omega
    have HQ := Aside0.mk (QtAt.first h0 h34)
    have HH := Aside0.mk h
    have hz := h.size
    clear h0 h34 h
    go_enter Try.func53, Try.ntmps53
    go_wp2_with fail
    refine (left_any _ _ _ HH.out).mono ?_
    rintro e w1 ⟨rfl, hb⟩
    have HB := Aside0.mk hb
    clear hb
    go_wp2
    clear hx h1 he
    go_loopg [5, 6] L.size (fun k v5 v6 wr => ∃ (i : Nat) (out : List Int), v6 = .int .i64 (i : Int) ∧ Aside0 (L.size - i ≤ k) ∧ Aside0 (QtAt L i out) ∧ Aside0 (wr.ownsRow w.heap.size 5 1 v5 out.length (nums .u8 out)) ∧ Aside0 (Below w.heap.size w wr))
    case atStart => exact ⟨1, [], rfl, ⟨by omega⟩, HQ, ⟨own_nil _ _ _ _⟩, HB⟩
    case round =>
      clear HQ HB
      obtain ⟨i, out, rfl, HK, HQ, HO, HB⟩ := hrel
      obtain ⟨A, c, hv⟩ := own_slice HO.out
      subst hv
      have hki := HK.out
      have hle := HQ.out.le
      have hpos := HQ.out.pos
      have hlen := HQ.out.len
      by_cases hlt : i < L.size
      · have hlt0 : (0 : Int) ≤ (i : Int) := by omega
        have hlt2 : (i : Int) < (L.size : Int) := by omega
        have hx : ∀ h : i < L.size, ((L[i]'h).toNat : Int) = bt L (i : Int) := fun h => bt_at L (i : Int) h
        by_cases b34 : bt L (i : Int) = 34
        · have e34 : (bt L (i : Int) == 34) = true := beq_iff_eq.mpr b34
          have HF := Lib.hid (HQ.out.mark hlt b34)
          have HC1 := Aside0.mk (HH.out.below HB.out)
          clear b34
          go_wp2_with fail
          refine (take_any _ _ _ HC1.out (i + 1) hlt).mono ?_
          rintro e w2 ⟨rfl, hC2, hE⟩
          have HC2 := Aside0.mk hC2
          have HE2 := Aside0.mk ((Eff.of_below HB.out).trans hE)
          have HO2 : w2.ownsRow w.heap.size 5 1 (.slice A out.length c) out.length (nums .u8 out) := by
            obtain ⟨s, n, hg, _⟩ := HC1.out
            exact own_eff HO.out hE hg
          have hs := own_string (P := Try.prog) (src := 73) (dst := 9) Try.underlying73 Try.underlying5 Try.underlying9 HO2
          clear hC2 hE HO2
          go_wp2
          go_ret2
          exact QPost.some HF.out HC2.out HE2.out
        · have e34 : (bt L (i : Int) == 34) = false := beq_eq_false_iff_ne.mpr b34
          by_cases b92 : bt L (i : Int) = 92
          · have e92 : (bt L (i : Int) == 92) = true := beq_iff_eq.mpr b92
            by_cases hend : i + 1 = L.size
            · have hq : ((i : Int) + 1 == (L.size : Int)) = true := beq_iff_eq.mpr (by omega)
              have HF := Lib.hid (HQ.out.slashEnd hend b92)
              clear b34 b92 hend
              go_wp2
              go_ret2
              exact QPost.none HF.out (HH.out.below HB.out) (Eff.of_below HB.out)
            · have hq : ((i : Int) + 1 == (L.size : Int)) = false := beq_eq_false_iff_ne.mpr (by omega)
              have hlt3 : i + 1 < L.size := by omega
              have hlt4 : (i : Int) + 1 < (L.size : Int) := by omega
              have hx2 : ∀ h : i + 1 < L.size, ((L[i + 1]'h).toNat : Int) = bt L ((i + 1 : Nat) : Int) := fun h => bt_at L ((i + 1 : Nat) : Int) h
              have hr := bt_range L ((i + 1 : Nat) : Int)
              obtain ⟨b, hbd⟩ : ∃ b, b = bt L ((i + 1 : Nat) : Int) := ⟨_, rfl⟩
              rw [← hbd] at hx2 hr
              have HBD := Lib.hid hbd
              have hcv := conv_one b wr
              have H92 := Lib.hid b92
              clear b34 b92 hend hbd
              go_wp2_with fail
              refine (octet_Value.calls _ _ _ (value_one b hr)).mono ?_
              rintro e w2 ⟨rfl, hb⟩
              have HB2 := Aside0.mk (below_step (below_alloc HB.out _) hb)
              have HO2 := Aside0.mk (pw_own_below (World.ownsRow.alloc HO.out _) hb)
              clear hb hcv
              cases hva : vaI b with
              | false =>
                have HF := Lib.hid (HQ.out.slashBad hlt3 H92.out (by rw [← HBD.out]; exact hva))
                clear hva
                go_wp2
                go_ret2
                exact QPost.none HF.out (HH.out.below HB2.out) (Eff.of_below HB2.out)
              | true =>
                have HQ2 : Aside0 (QtAt L (i + 2) (out ++ [b])) := ⟨by rw [HBD.out]; exact HQ.out.slash hlt3 H92.out (by rw [← HBD.out]; exact hva)⟩
                clear hva
                go_wp2_with (at_builtin; refine print_append_num (w0 := w) w.heap.size rfl (.tmp 58) (.tmp 60) 73 5 .u8 1 rfl Try.underlying73 inf5 (by decide) _ out b rfl rfl HO2.out HB2.out HB2.out.size (by omega) ?_)
                intro v1 w3 hown hB3 hg hat
                obtain ⟨A1, c1, hv1⟩ := own_slice hown
                subst hv1
                have HO3 := Aside0.mk hown
                have HB3 := Aside0.mk hB3
                clear hown hB3 hg hat
                go_wp2
                go_roundg (gk - 1)
                case measure => omega
                case rel => exact ⟨i + 2, out ++ [b], by go_num, ⟨by omega⟩, HQ2, ⟨by rw [List.length_append, List.length_singleton]; exact HO3.out⟩, HB3⟩
          · have e92 : (bt L (i : Int) == 92) = false := beq_eq_false_iff_ne.mpr b92
            have hr := bt_range L (i : Int)
            obtain ⟨b, hbd⟩ : ∃ b, b = bt L (i : Int) := ⟨_, rfl⟩
            rw [← hbd] at hx hr e34 e92
            have HBD := Lib.hid hbd
            have hcv := conv_one b wr
            have H34 := Lib.hid b34
            have H92 := Lib.hid b92
            clear b34 b92 hbd
            go_wp2_with fail
            refine (octet_Value.calls _ _ _ (value_one b hr)).mono ?_
            rintro e w2 ⟨rfl, hb⟩
            have HB2 := Aside0.mk (below_step (below_alloc HB.out _) hb)
            have HO2 := Aside0.mk (pw_own_below (World.ownsRow.alloc HO.out _) hb)
            clear hb hcv
            cases hva : vaI b with
            | false =>
              have HF := Lib.hid (HQ.out.plainBad hlt H34.out H92.out (by rw [← HBD.out]; exact hva))
              clear hva
              go_wp2
              go_ret2
              exact QPost.none HF.out (HH.out.below HB2.out) (Eff.of_below HB2.out)
            | true =>
              have HQ2 : Aside0 (QtAt L (i + 1) (out ++ [b])) := ⟨by rw [HBD.out]; exact HQ.out.plain hlt H34.out H92.out (by rw [← HBD.out]; exact hva)⟩
              clear hva
              go_wp2_with (at_builtin; refine print_append_num (w0 := w) w.heap.size rfl (.tmp 58) (.tmp 60) 73 5 .u8 1 rfl Try.underlying73 inf5 (by decide) _ out b rfl rfl HO2.out HB2.out HB2.out.size (by omega) ?_)
              intro v1 w3 hown hB3 hg hat
              obtain ⟨A1, c1, hv1⟩ := own_slice hown
              subst hv1
              have HO3 := Aside0.mk hown
              have HB3 := Aside0.mk hB3
              clear hown hB3 hg hat
              go_wp2
              go_roundg (gk - 1)
              case measure => omega
              case rel => exact ⟨i + 1, out ++ [b], by go_num, ⟨by omega⟩, HQ2, ⟨by rw [List.length_append, List.length_singleton]; exact HO3.out⟩, HB3⟩
      · have hlt2 : ¬ (i : Int) < (L.size : Int) := by omega
        have HF := Lib.hid (HQ.out.over hlt)
        go_wp2
        go_ret2
        exact QPost.none HF.out (HH.out.below HB.out) (Eff.of_below HB.out)
  · have HF := Lib.hid (quoted_not (L := L) (fun h0 h34 => hc ⟨h0, h34⟩))
    by_cases h0 : 0 < L.size
    · have he : L.toList.isEmpty = false := by
        cases hq : L.toList.isEmpty with
        | false => rfl
        | true => exact absurd (by rw [Lib.toList_data] at hq; have := List.isEmpty_iff.1 hq; have e := data_length L; rw [this] at e; exact e.symm) (Nat.ne_of_gt h0)
      have hx : ∀ h : 0 < L.size, ((L[0]'h).toNat : Int) = bt L 0 := fun h => bt_at L 0 h
      have h1 : (0 : Int) < (L.size : Int) := by omega
      have hn : (bt L 0 != 34) = true := bne_iff_ne.mpr (fun h34 => hc ⟨h0, h34⟩)
      have HH := Aside0.mk h
      clear h0 hc h
      go_enter Try.func53, Try.ntmps53
      go_wp2_with fail
      refine (left_any _ _ _ HH.out).mono ?_
      rintro e w1 ⟨rfl, hb⟩
      have HB := Aside0.mk hb
      clear hb
      go_wp2
      go_ret2
      exact QPost.none HF.out (HH.out.below HB.out) (Eff.of_below HB.out)
    · have he : L.toList.isEmpty = true := by
        rw [Lib.toList_data, List.isEmpty_iff]
        exact List.eq_nil_of_length_eq_zero (by rw [data_length]; omega)
      have HH := Aside0.mk h
      clear h0 hc h
      go_enter Try.func53, Try.ntmps53
      go_wp2_with fail
      refine (left_any _ _ _ HH.out).mono ?_
      rintro e w1 ⟨rfl, hb⟩
      have HB := Aside0.mk hb
      clear hb
      go_wp2
      go_ret2
      exact QPost.none HF.out (HH.out.below HB.out) (Eff.of_below HB.out)
end Go.Proofs.Ytbelgmfhaddhmaa.Q
