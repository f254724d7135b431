/- The contract of the law's function feed: all lines of some texts. -/
import Derived.Test.YtabegfdmmjhfdaaExtC
import Derived.Test.YtabegfdmmjhfdaaPlainB
import Derived.Lib.IndexBytes
namespace Go.Proofs.Ytabegfdmmjhfdaa.Q
open Go.RowKit Go.Proofs.YtabegfdmmjhfdaaW.PrintWords
open Go.Proofs.Ytabegfdmmjhfdaa.Plain
set_option linter.unusedVariables false

def cat (l : List ByteArray) : List Int := l.flatMap bytesOf
/-- Where the law's loops stand: what is to come gives T in the end. -/
structure RunAt (T : List ByteArray × St) (s rest : List Int) (outs : List ByteArray) (st : St) : Prop where
  tot : run (s ++ rest) (outs, st) = T
  ok : Ok st
  wh : st.whole = false
  e0 : st.e = 0
  cnt : 2 * (outs.length : Int) + wt st ≤ st.spent
  bound : st.spent + ((s ++ rest).length : Int) ≤ 4000
/-- The rows of strings that are the call's own. -/
def Outs (w : World) (base : Nat) (v : Value) (outs : List ByteArray) : Prop := w.ownsRow base 9 1 v outs.length (encs Value.string outs)
def FeedsPost (W : World) (B g : Nat) (T : List ByteArray × St) (e : Ending) (w' : World) : Prop :=
  ∃ v, e = .returned (.tuple #[v, .int .i64 T.2.spent, .int .i64 T.2.e]) ∧ Outs w' W.heap.size v T.1 ∧ IsL w' B g T.2 ∧ Below B W w' ∧ Eff g W w'
theorem Outs.eff {w w' : World} {B b g : Nat} {v : Value} {outs : List ByteArray} {st : St} (h : Outs w b v outs) (hL : IsL w B g st) (he : Eff g w w') : Outs w' b v outs :=
  own_move h (fun k hk => by
    obtain ⟨cells, hc⟩ := own_typed h k hk
    obtain ⟨_, lv, hb, _⟩ := hL
    refine he.2 k (blk_lt hc) (fun e => ?_) (fun cs fr e => ?_)
    · subst e; rw [hc] at hb; injection hb with hb; injection hb with _ h3; exact absurd h3 (by decide)
    · rw [hc] at e; injection e with e; injection e with _ h3; exact absurd h3 (by decide))
theorem IsL.grown {w w' : World} {B b g : Nat} {v : Value} {outs : List ByteArray} {st : St} (hL : IsL w B g st) (h : Outs w b v outs) (hg : w.grownBy w' v.ownBlock) : IsL w' B g st := by
  obtain ⟨hB, lv, hb, ho⟩ := hL
  exact ⟨hB, lv, blk_grown hb hg (own_ne_block h hb (by decide)), own_other ho hg (own_type_ne ho h (by decide))⟩
theorem IsL.alloc {w : World} {B g : Nat} {st : St} (hL : IsL w B g st) (o : Obj) : IsL (w.alloc o) B g st := by
  obtain ⟨hB, lv, hb, ho⟩ := hL
  exact ⟨hB, lv, blk_alloc hb o, ho.alloc o⟩
/-- A row of the call's own has grown. -/
theorem Eff.own {g : Nat} {a b c : World} {v : Value} {outs : List ByteArray} (h : Eff g a b) (ho : Outs b a.heap.size v outs) (hg : b.grownBy c v.ownBlock) : Eff g a c :=
  ⟨Nat.le_trans h.1 hg.size, fun k hk hne ht => (hg.block k (Nat.lt_of_lt_of_le hk h.1) (fun e => by have := own_base ho k e.symm; omega)).trans (h.2 k hk hne ht)⟩
theorem info9 : (Try.prog.info? 9).map (fun i => (i.zero, i.size, i.bytes)) = some (some (.string ⟨#[]⟩), 1, 16) := by kernel_rfl

theorem bytesOf_extract (s : ByteArray) (n : Nat) : bytesOf (s.extract n s.size) = (bytesOf s).drop n := by
  unfold bytesOf
  rw [Lib.extract_to_end, List.map_drop]
theorem empty_yes {s : ByteArray} (h : s.size = 0) : s.toList.isEmpty = true := by
  rw [Lib.toList_data, List.isEmpty_iff]
  exact List.eq_nil_of_length_eq_zero (by rw [data_length, h])
theorem empty_no {s : ByteArray} (h : ¬ s.size = 0) : s.toList.isEmpty = false := by
  rw [Lib.toList_data, List.isEmpty_eq_false_iff]
  intro e
  exact h (by rw [← data_length, e]; rfl)
theorem bytesOf_nil (s : ByteArray) (h : s.size = 0) : bytesOf s = [] := List.eq_nil_of_length_eq_zero (by rw [bytesOf_length, h])
theorem cat_drop (parts : List ByteArray) (i : Nat) (h : i < parts.length) : cat (parts.drop i) = bytesOf parts[i] ++ cat (parts.drop (i + 1)) := by
  rw [List.drop_eq_getElem_cons h]; rfl
theorem RunAt.enter {T : List ByteArray × St} {parts : List ByteArray} {i : Nat} {outs : List ByteArray} {st : St} (h : RunAt T [] (cat (parts.drop i)) outs st) (hi : i < parts.length) : RunAt T (bytesOf parts[i]) (cat (parts.drop (i + 1))) outs st := by
  obtain ⟨h1, h2, h3, h4, h5, h6⟩ := h
  rw [cat_drop parts i hi] at h1 h6
  exact ⟨h1, h2, h3, h4, h5, h6⟩
theorem RunAt.leave {T : List ByteArray × St} {s : ByteArray} {rest : List Int} {outs : List ByteArray} {st : St} (h : RunAt T (bytesOf s) rest outs st) (hs : s.size = 0) : RunAt T [] rest outs st := by
  rw [bytesOf_nil s hs] at h; exact h
theorem RunAt.small {T : List ByteArray × St} {s : ByteArray} {rest : List Int} {outs : List ByteArray} {st : St} (h : RunAt T (bytesOf s) rest outs st) : outs.length ≤ 2000 ∧ s.size ≤ 4000 ∧ 0 ≤ st.spent ∧ st.spent ≤ 4000 := by
  have h1 := h.cnt
  have h2 := h.bound
  have h3 := h.ok.s0
  have h4 : 0 ≤ wt st := by unfold wt; split; · omega
                            · split <;> omega
  rw [List.length_append, bytesOf_length] at h2
  omega
/-- One call of Feed, all in one. -/
theorem RunAt.fed {T : List ByteArray × St} {s : ByteArray} {rest : List Int} {outs : List ByteArray} {st : St} (h : RunAt T (bytesOf s) rest outs st) : Fed st (bytesOf s) (feed st (bytesOf s)).1 (feed st (bytesOf s)).2 := feed_is _ st h.ok h.wh h.e0
theorem RunAt.line {T : List ByteArray × St} {s : ByteArray} {rest : List Int} {outs : List ByteArray} {st st1 : St} {n : Nat} (h : RunAt T (bytesOf s) rest outs st) (f : Fed st (bytesOf s) n st1) (hw : st1.whole = true) : RunAt T (bytesOf (s.extract n s.size)) rest (outs ++ [strOfNums st1.line]) st1.taken := by
  have hn := f.le
  rw [bytesOf_length] at hn
  have hx := f.wt
  have hs := f.spent
  have h1 := h.cnt
  have h2 := h.bound
  have hwt : wt st1 = 2 := if_pos hw
  rw [bytesOf_extract s n]
  refine ⟨by rw [← (f.whole hw).2.2]; exact h.tot, f.ok.taken, rfl, (f.whole hw).1, ?_, ?_⟩
  · have e : st1.taken.spent = st1.spent := rfl
    have e2 : wt st1.taken = 0 := by simp [wt, St.taken, f.turn hw]
    have hp := (f.whole hw).2.1
    rw [e, e2, List.length_append, List.length_singleton]
    omega
  · have e : st1.taken.spent = st1.spent := rfl
    rw [e, hs]
    rw [List.length_append] at h2 ⊢
    rw [List.length_drop, bytesOf_length]
    rw [bytesOf_length] at h2
    omega
theorem RunAt.cut {T : List ByteArray × St} {s : ByteArray} {rest : List Int} {outs : List ByteArray} {st st1 : St} {n : Nat} (h : RunAt T (bytesOf s) rest outs st) (f : Fed st (bytesOf s) n st1) (hw : st1.whole = false) (he : st1.e = 0) : n = s.size ∧ RunAt T (bytesOf (s.extract n s.size)) rest outs st1 := by
  obtain ⟨hn, ht⟩ := f.good hw he
  rw [bytesOf_length] at hn
  subst hn
  have hx := f.wt
  have hs := f.spent
  have h1 := h.cnt
  have h2 := h.bound
  rw [bytesOf_extract s s.size, List.drop_eq_nil_of_le (by rw [bytesOf_length]; omega)]
  refine ⟨rfl, by rw [List.nil_append, ← ht]; exact h.tot, f.ok, hw, he, by omega, ?_⟩
  rw [List.length_append, bytesOf_length] at h2
  rw [List.nil_append, hs]
  omega
theorem RunAt.bad {T : List ByteArray × St} {s : ByteArray} {rest : List Int} {outs : List ByteArray} {st st1 : St} {n : Nat} (h : RunAt T (bytesOf s) rest outs st) (f : Fed st (bytesOf s) n st1) (hw : st1.whole = false) (he : st1.e ≠ 0) : T = (outs, st1) := by
  rw [← h.tot, f.bad hw he]

set_option maxHeartbeats 4000000 in
set_option maxRecDepth 100000 in
theorem feeds_any (W : World) (B g : Nat) (st0 : St) (A : Option Addr) (c : Nat) (parts : List ByteArray) (T : List ByteArray × St) (hL : IsL W B g st0) (hB : B ≤ W.heap.size)
    (hR : RunAt T [] (cat parts) [] st0) (hn : parts.length ≤ 200) (hs0 : st0.spent = 0)
    (hc : ∀ W', Below B W W' → Eff g W W' → Kd.C Kd.string W' A parts.length parts) :
    Calls Try.prog 9 #[.pointer (some ⟨g, 0, none⟩), .slice A parts.length c] W (FeedsPost W B g T) := by
  have HL := Aside0.mk hL
  have HR := Aside0.mk hR
  have HC := Aside0.mk hc
  have HS0 := Lib.hid hs0
  clear hL hR hc hs0
  obtain ⟨i0, hi, hz0, hz1, hz2⟩ := info_parts info9
  go_enter Try.func9, Try.ntmps9
  go_wp2
  go_loopg [7, 8, 16] parts.length (fun k v7 v8 v16 wr => ∃ (i : Nat) (outs : List ByteArray) (st : St), v8 = .int .i64 st.spent ∧ v16 = .int .i64 i ∧ Aside0 (i ≤ parts.length ∧ parts.length - i ≤ k) ∧ Aside0 (RunAt T [] (cat (parts.drop i)) outs st) ∧ Aside0 (Outs wr W.heap.size v7 outs) ∧ Aside0 (IsL wr B g st) ∧ Aside0 (Below B W wr) ∧ Aside0 (Eff g W wr))
  case atStart =>
    exact ⟨0, [], st0, by rw [HS0.out], rfl, ⟨by omega, by omega⟩, HR, ⟨rfl, .inr ⟨W.heap.size, 0, #[], rfl, Nat.le_refl _, blk_new _ _, Nat.le_refl _, Nat.zero_le _, rfl, rfl⟩⟩, ⟨HL.out.alloc _⟩, ⟨(Below.refl _ _).alloc hB _⟩, ⟨(Eff.refl _ _).alloc _⟩⟩
  case round =>
    clear HL HR HS0
    obtain ⟨i, outs, st, rfl, rfl, HI, HR, HO, HL, HB, HE⟩ := hrel
    have hi0 := HI.out.1
    have hi1 := HI.out.2
    obtain ⟨kO, rfl⟩ : ∃ k, k = gk := ⟨_, rfl⟩
    by_cases hlt : i < parts.length
    · obtain ⟨_, _, hrd⟩ := Kd.reads_of_C (d := ByteArray.empty) (HC.out wr HB.out HE.out)
      obtain ⟨ad, hA, hcell⟩ := hrd (by omega)
      have hci := hcell i hlt
      rw [show parts.getD i ByteArray.empty = parts[i] by simp [hlt]] at hci
      clear hcell hrd
      subst hA
      have HR2 := Aside0.mk (HR.out.enter hlt)
      obtain ⟨s0, hs0⟩ : ∃ s0, s0 = parts[i] := ⟨_, rfl⟩
      rw [← hs0] at hci HR2
      clear hs0 HR
      obtain ⟨wo, rfl⟩ : ∃ wo : World, wo = wr := ⟨_, rfl⟩
      go_wp2
      go_loopg [7, 8, 10] s0.size (fun k v7 v8 v10 wr => ∃ (s : ByteArray) (outs : List ByteArray) (st : St), v8 = .int .i64 st.spent ∧ v10 = .string s ∧ Aside0 (s.size ≤ k) ∧ Aside0 (RunAt T (bytesOf s) (cat (parts.drop (i + 1))) outs st) ∧ Aside0 (Outs wr W.heap.size v7 outs) ∧ Aside0 (IsL wr B g st) ∧ Aside0 (Below B W wr) ∧ Aside0 (Eff g W wr))
      case atStart => exact ⟨s0, outs, st, rfl, rfl, ⟨Nat.le_refl _⟩, HR2, HO, HL, HB, HE⟩
      case round =>
        clear HR2 HO HL HB HE hci
        obtain ⟨s, outs, st, rfl, rfl, HI2, HR, HO, HL, HB, HE⟩ := hrel
        have hsz := HI2.out
        obtain ⟨hm1, hm2, hm3, hm4⟩ := HR.out.small
        have hBr : W.heap.size ≤ wr.heap.size := HE.out.1
        by_cases hs : s.size = 0
        · have he : s.toList.isEmpty = true := empty_yes hs
          have HS := Lib.hid hs
          clear hs
          go_wp2
          go_roundg (kO - 1)
          case measure => omega
          case rel => exact ⟨i + 1, outs, st, rfl, by go_num, ⟨by omega, by omega⟩, ⟨HR.out.leave HS.out⟩, HO, HL, HB, HE⟩
        · have he : s.toList.isEmpty = false := empty_no hs
          have hs0 : 0 < s.size := by omega
          clear hs
          obtain ⟨A7, c7, hv7⟩ := own_slice HO.out
          rw [hv7]
          have HV7 := Lib.hid hv7
          clear hv7
          have HF0 := HR.out.fed
          obtain ⟨n, st1, HN⟩ : ∃ n st1, Hid (feed st (bytesOf s) = (n, st1)) := ⟨_, _, rfl⟩
          have e1 : (feed st (bytesOf s)).1 = n := by rw [HN.out]
          have e2 : (feed st (bytesOf s)).2 = st1 := by rw [HN.out]
          rw [e1, e2] at HF0
          have HF := Aside0.mk HF0
          have hnle := HF0.le
          rw [bytesOf_length] at hnle
          clear e1 e2 HF0
          go_wp2_with fail
          refine (feed_any wr B g st s HL.out HR.out.ok (by omega) (by omega)).mono ?_
          unfold FeedPost
          rw [HN.out]
          rintro e w1 ⟨rfl, hL1, hb1, he1⟩
          have HO1 := Aside0.mk (HO.out.eff HL.out he1)
          have HL1 := Aside0.mk hL1
          have HB1 := Aside0.mk (HB.out.trans hb1)
          have HE1 := Aside0.mk (HE.out.trans he1)
          have hBr1 : W.heap.size ≤ w1.heap.size := HE1.out.1
          clear hL1 hb1 he1 HO HL HB HE
          cases hw : st1.whole with
          | true =>
            have HW := Lib.hid hw
            have HR2 := Aside0.mk (HR.out.line HF.out hw)
            have hn0 := (HF.out.whole hw).2.1
            clear hw HR
            go_wp2_with fail
            refine (whole_any _ B g st1 true HL1.out HW).mono ?_
            rintro e w2 ⟨rfl, rfl⟩
            go_wp2_with fail
            refine (line_yes _ B g st1 HL1.out HW).mono ?_
            rintro e w2 ⟨rfl, hL2, hb2, he2⟩
            have HO2 := Aside0.mk (HO1.out.eff HL1.out he2)
            have HL2 := Aside0.mk (show IsL w2 B g st1.taken from hL2)
            have HB2 := Aside0.mk (HB1.out.trans hb2)
            have HE2 := Aside0.mk (HE1.out.trans he2)
            have hBr2 : W.heap.size ≤ w2.heap.size := HE2.out.1
            clear hL2 hb2 he2 HO1 HL1 HB1 HE1
            have HO3 := Aside0.mk (show Outs w2 W.heap.size (.slice A7 outs.length c7) outs from HV7.out ▸ HO2.out)
            clear HO2
            go_wp2_with (at_builtin; refine wpList_append_own _ rfl (.tmp 46) (.tmp 49) 22 rfl W.heap.size 9 i0 (.string ⟨#[]⟩) 1 16 Try.underlying22 hi hz0 hz1 hz2 rfl (by decide) _ _ _ rfl (World.ownsRow.alloc HO3.out _) ⟨w2.heap.size, 0, none⟩ 1 1 [.string (strOfNums st1.line)] rfl rfl ?c1 ?c2 ?c3 ?c4 ?c5 ?_)
            case c1 => exact cell_one_new _ _ _
            case c2 => intro u hu; simp at hu; subst hu; rfl
            case c3 => unfold maxLen; omega
            case c4 => omega
            case c5 => simp; omega
            intro v' w3 hown' hgrow _
            have hO4 : Outs w3 W.heap.size v' (outs ++ [strOfNums st1.line]) := by
              unfold Outs
              rw [List.length_append, List.length_singleton, encs_append]
              exact hown'
            have HL4 := Aside0.mk ((HL2.out.alloc _).grown (World.ownsRow.alloc HO3.out _) hgrow)
            have hb4 : Below B W w3 := (HB2.out.alloc (by omega) _).grown hgrow (by simp; omega) (fun k hk => Nat.le_trans hB (own_base HO3.out k hk))
            have he4 : Eff g W w3 := (HE2.out.alloc _).own (World.ownsRow.alloc HO3.out _) hgrow
            have HO4 := Aside0.mk hO4
            have HB4 := Aside0.mk hb4
            have HE4 := Aside0.mk he4
            obtain ⟨A8, c8, hv8⟩ := own_slice hO4
            have HV8 := Lib.hid hv8
            have HSP := Lib.hid (HF.out.spent)
            clear hown' hgrow hO4 hb4 he4 HB2 HE2 HL2 HO3
            rw [hv8]
            clear hv8
            go_wp2
            go_roundg (s.size - n)
            case measure => omega
            case rel =>
              refine ⟨s.extract n s.size, outs ++ [strOfNums st1.line], st1.taken, ?_, rfl, ⟨by simp⟩, HR2, ?_, HL4, HB4, HE4⟩
              · rw [show st1.taken.spent = st1.spent from rfl, HSP.out]
              · rw [← HV8.out]; exact HO4
          | false =>
            have HW := Lib.hid hw
            by_cases he : st1.e = 0
            · obtain ⟨hns, hR2⟩ := HR.out.cut HF.out hw he
              have HR2 := Aside0.mk hR2
              have HNS := Lib.hid hns
              have HE0 := Lib.hid he
              have he0 : (st1.e != 0) = false := bne_eq_false_iff_eq.mpr he
              have hge : s.size ≤ n := by omega
              have HSP := Lib.hid (HF.out.spent)
              clear hw HR hR2 hns he
              go_wp2_with fail
              refine (whole_any _ B g st1 false HL1.out HW).mono ?_
              rintro e w2 ⟨rfl, rfl⟩
              go_wp2
              go_roundg (s.size - n)
              case measure => omega
              case rel =>
                refine ⟨s.extract n s.size, outs, st1, ?_, rfl, ⟨by simp⟩, HR2, ?_, HL1, HB1, HE1⟩
                · rw [HSP.out]
                · rw [← HV7.out]; exact HO1
            · have hT := HR.out.bad HF.out hw he
              have HT := Lib.hid hT
              have he0 : (st1.e != 0) = true := bne_iff_ne.mpr he
              have HSP := Lib.hid (HF.out.spent)
              clear hw hT he
              go_wp2_with fail
              refine (whole_any _ B g st1 false HL1.out HW).mono ?_
              rintro e w2 ⟨rfl, rfl⟩
              go_wp2
              go_ret3
              unfold FeedsPost
              rw [HT.out]
              exact ⟨.slice A7 outs.length c7, by rw [HSP.out]; rfl, HV7.out ▸ HO1.out, HL1.out, HB1.out, HE1.out⟩
    · have HT : Hid (T = (outs, st)) := by
        have h := HR.out.tot
        rw [List.drop_eq_nil_of_le (by omega)] at h
        exact h.symm
      have HE0 := Lib.hid HR.out.e0
      go_wp2
      go_ret3
      unfold FeedsPost
      rw [HT.out]
      exact ⟨_, by rw [HE0.out]; rfl, HO.out, HL.out, HB.out, HE.out⟩
end Go.Proofs.Ytabegfdmmjhfdaa.Q
