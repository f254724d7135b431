/- The contract of the reference's Read. -/
import Derived.Test.YtabegfdmmjhfdaaPlainC
namespace Go.Proofs.Ytabegfdmmjhfdaa.Q
open Go.RowKit Go.Proofs.YtabegfdmmjhfdaaW.PrintWords
open Go.Proofs.Ytabegfdmmjhfdaa.Plain
set_option linter.unusedVariables false

def ReadPost (W : World) (T : List ByteArray × St) (e : Ending) (w' : World) : Prop :=
  ∃ v, e = .returned (.tuple #[v, .bool T.2.within, .int .i64 T.2.spent, .int .i64 T.2.e]) ∧ Outs w' W.heap.size v T.1 ∧ Below W.heap.size W w'
theorem RdAt.post {T : List ByteArray × St} {s : ByteArray} {most : Int} {i f : Nat} {out : List ByteArray} {st : St} (h : RdAt T s most i f out st) {W wr : World} {v : Value} (ho : Outs wr W.heap.size v out) (hb : Below W.heap.size W wr) (e : Int) (hT : T = (out, { st with e := e })) :
    ReadPost W T (.returned (.tuple #[v, .bool (decide (f < i)), .int .i64 (i : Int), .int .i64 e])) wr := by
  unfold ReadPost
  rw [hT]
  refine ⟨v, ?_, ho, hb⟩
  show _ = Ending.returned (.tuple #[v, .bool st.within, .int .i64 st.spent, .int .i64 e])
  rw [h.within, h.spent]

set_option maxHeartbeats 4000000 in
set_option maxRecDepth 100000 in
theorem read_any (W : World) (s : ByteArray) (most : Int) (hs : s.size ≤ 4000) (h0 : 0 ≤ most) (h1 : most ≤ 65536) (T : List ByteArray × St) (hT : T = run (bytesOf s) ([], fresh most)) :
    Calls Try.prog 10 #[.string s, .int .i64 most] W (ReadPost W T) := by
  have HR : Aside0 (RdAt T s most 0 0 [] (fresh most)) := ⟨hT ▸ RdAt.begin s most⟩
  clear hT
  obtain ⟨i0, hi, hz0, hz1, hz2⟩ := info_parts info9
  go_enter Try.func10, Try.ntmps10
  go_wp2
  go_loopg [8, 9, 10] s.size (fun k v8 v9 v10 wr => ∃ (i f : Nat) (out : List ByteArray) (st : St), v9 = .int .i64 (f : Int) ∧ v10 = .int .i64 (i : Int) ∧ Aside0 (RdAt T s most i f out st) ∧ Aside0 (s.size - i ≤ k) ∧ Aside0 (Outs wr W.heap.size v8 out) ∧ Aside0 (Below W.heap.size W wr))
  case atStart => exact ⟨0, 0, [], fresh most, rfl, rfl, HR, ⟨Nat.le_refl _⟩, ⟨rfl, .inr ⟨W.heap.size, 0, #[], rfl, Nat.le_refl _, blk_new _ _, Nat.le_refl _, Nat.zero_le _, rfl, rfl⟩⟩, ⟨(Below.refl _ _).alloc (Nat.le_refl _) _⟩⟩
  case round =>
    clear HR
    obtain ⟨i, f, out, st, rfl, rfl, HR, HI, HO, HB⟩ := hrel
    have hfi := HR.out.fi
    have his := HR.out.is
    have hcn := HR.out.cnt
    have hki := HI.out
    have hsz : W.heap.size ≤ wr.heap.size := HB.out.size
    by_cases hlt : i < s.size
    · by_cases hm : (i : Int) = most
      · have hm0 : ((i : Int) == most) = true := beq_iff_eq.mpr hm
        have HT := Lib.hid (HR.out.long hlt hm)
        clear hm
        go_wp2
        refine bodyPost_ret (results_list (rs := [.tmp 4, .tmp 5, .tmp 6, .tmp 7]) rfl (by simp) (.tmp (.tmp (.tmp (.tmp .nil))))) rfl ?_
        exact HR.out.post HO.out HB.out 4 HT.out
      · have hm0 : ((i : Int) == most) = false := beq_eq_false_iff_ne.mpr hm
        have hm' := Lib.hid hm
        by_cases hfl : f < i
        · have hp : i - 1 < s.size := by omega
          by_cases h13 : ((s[i - 1]'hp).toNat : Int) = 13
          · have h13b : (((s[i - 1]'hp).toNat : Int) == 13) = true := beq_iff_eq.mpr h13
            have hturn : st.turn = true := HR.out.turn.2 ⟨hfl, hp, h13⟩
            clear h13
            by_cases hcv : ((s[i]'hlt).toNat : Int) = 10
            · have hc10 : (((s[i]'hlt).toNat : Int) == 10) = true := beq_iff_eq.mpr hcv
              obtain ⟨hf1, hr2⟩ := HR.out.lf hlt hm hturn hcv
              have HR2 := Aside0.mk hr2
              clear hr2 hcv hturn hm
              go_wp2_with (at_builtin; refine wpList_append_own _ rfl (.tmp 52) (.tmp 58) 22 rfl W.heap.size 9 i0 (.string ⟨#[]⟩) 1 16 Try.underlying22 hi hz0 hz1 hz2 rfl (by decide) _ _ _ rfl (World.ownsRow.alloc HO.out _) ⟨wr.heap.size, 0, none⟩ 1 1 [.string (s.extract f (i - 1))] rfl rfl ?c1 ?c2 ?c3 ?c4 ?c5 ?_)
              case c1 => exact cell_one_new _ _ _
              case c2 => intro u hu; simp at hu; subst hu; rfl
              case c3 => unfold maxLen; omega
              case c4 => omega
              case c5 => simp; omega
              intro v' w3 hown' hgrow _
              have hO4 : Outs w3 W.heap.size v' (out ++ [s.extract f (i - 1)]) := by
                unfold Outs
                rw [List.length_append, List.length_singleton, encs_append]
                exact hown'
              have HO4 := Aside0.mk hO4
              have HB4 := Aside0.mk ((HB.out.alloc hsz _).grown hgrow (by simp; omega) (fun k hk => own_base HO.out k hk))
              clear hown' hgrow hO4
              go_wp2
              go_roundg (gk - 1)
              case measure => omega
              case rel => exact ⟨i + 1, i + 1, _, _, by go_num, by go_num, HR2, ⟨by omega⟩, HO4, HB4⟩
            · have hc10 : (((s[i]'hlt).toNat : Int) == 10) = false := beq_eq_false_iff_ne.mpr hcv
              have hbad : st.turn ≠ (((s[i]'hlt).toNat : Int) == 10) := by rw [hturn, hc10]; decide
              clear hturn hcv
              have HT := Lib.hid (HR.out.bad hlt hm hbad)
              clear hbad hm
              go_wp2
              refine bodyPost_ret (results_list (rs := [.tmp 4, .tmp 5, .tmp 6, .tmp 7]) rfl (by simp) (.tmp (.tmp (.tmp (.tmp .nil))))) rfl ?_
              have hp8 := HR.out.post HO.out HB.out 8 HT.out
              first | exact hp8 | (rw [decide_eq_true hfl] at hp8; exact hp8) | (rw [decide_eq_false hfl] at hp8; exact hp8)
          · have h13b : (((s[i - 1]'hp).toNat : Int) == 13) = false := beq_eq_false_iff_ne.mpr h13
            have hturn : st.turn = false := by
              cases hq : st.turn with
              | false => rfl
              | true => obtain ⟨_, _, h⟩ := HR.out.turn.1 hq; exact absurd h h13
            clear h13
            by_cases hcv : ((s[i]'hlt).toNat : Int) = 10
            · have hc10 : (((s[i]'hlt).toNat : Int) == 10) = true := beq_iff_eq.mpr hcv
              have hbad : st.turn ≠ (((s[i]'hlt).toNat : Int) == 10) := by rw [hturn, hc10]; decide
              clear hturn hcv
              have HT := Lib.hid (HR.out.bad hlt hm hbad)
              clear hbad hm
              go_wp2
              refine bodyPost_ret (results_list (rs := [.tmp 4, .tmp 5, .tmp 6, .tmp 7]) rfl (by simp) (.tmp (.tmp (.tmp (.tmp .nil))))) rfl ?_
              have hp8 := HR.out.post HO.out HB.out 8 HT.out
              first | exact hp8 | (rw [decide_eq_true hfl] at hp8; exact hp8) | (rw [decide_eq_false hfl] at hp8; exact hp8)
            · have hc10 : (((s[i]'hlt).toNat : Int) == 10) = false := beq_eq_false_iff_ne.mpr hcv
              obtain ⟨st2, hr2⟩ : ∃ st2, RdAt T s most (i + 1) f out st2 := by
                by_cases h13 : ((s[i]'hlt).toNat : Int) = 13
                · exact ⟨_, HR.out.cr hlt hm hturn h13⟩
                · exact ⟨_, HR.out.oct hlt hm hturn h13 hcv⟩
              clear hturn hcv
              have HR2 := Aside0.mk hr2
              clear hm hr2
              go_wp2
              go_roundg (gk - 1)
              case measure => omega
              case rel => exact ⟨i + 1, f, _, _, rfl, by go_num, HR2, ⟨by omega⟩, HO, HB⟩
        · have hturn : st.turn = false := by
            cases hq : st.turn with
            | false => rfl
            | true => obtain ⟨h, _⟩ := HR.out.turn.1 hq; exact absurd h hfl
          by_cases hcv : ((s[i]'hlt).toNat : Int) = 10
          · have hc10 : (((s[i]'hlt).toNat : Int) == 10) = true := beq_iff_eq.mpr hcv
            have hbad : st.turn ≠ (((s[i]'hlt).toNat : Int) == 10) := by rw [hturn, hc10]; decide
            clear hturn hcv
            have HT := Lib.hid (HR.out.bad hlt hm hbad)
            clear hbad hm
            go_wp2
            refine bodyPost_ret (results_list (rs := [.tmp 4, .tmp 5, .tmp 6, .tmp 7]) rfl (by simp) (.tmp (.tmp (.tmp (.tmp .nil))))) rfl ?_
            have hp8 := HR.out.post HO.out HB.out 8 HT.out
            first | exact hp8 | (rw [decide_eq_true hfl] at hp8; exact hp8) | (rw [decide_eq_false hfl] at hp8; exact hp8)
          · have hc10 : (((s[i]'hlt).toNat : Int) == 10) = false := beq_eq_false_iff_ne.mpr hcv
            obtain ⟨st2, hr2⟩ : ∃ st2, RdAt T s most (i + 1) f out st2 := by
              by_cases h13 : ((s[i]'hlt).toNat : Int) = 13
              · exact ⟨_, HR.out.cr hlt hm hturn h13⟩
              · exact ⟨_, HR.out.oct hlt hm hturn h13 hcv⟩
            clear hturn hcv
            have HR2 := Aside0.mk hr2
            clear hm hr2
            go_wp2
            go_roundg (gk - 1)
            case measure => omega
            case rel => exact ⟨i + 1, f, _, _, rfl, by go_num, HR2, ⟨by omega⟩, HO, HB⟩
    · have hie : i = s.size := by omega
      have HT := Lib.hid (HR.out.over hie)
      have HIE := Lib.hid hie
      have HE0 := Lib.hid HR.out.e0
      clear hie
      go_wp2
      refine bodyPost_ret (results_list (rs := [.tmp 4, .tmp 5, .tmp 6, .tmp 7]) rfl (by simp) (.tmp (.tmp (.tmp (.tmp .nil))))) rfl ?_
      have hp := HR.out.post HO.out HB.out st.e (by rw [HT.out])
      rw [HE0.out, HIE.out] at hp
      exact hp
end Go.Proofs.Ytabegfdmmjhfdaa.Q
