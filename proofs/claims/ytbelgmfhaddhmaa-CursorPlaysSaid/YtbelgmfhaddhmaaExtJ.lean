/- The walk of CursorPlays. -/
import Derived.Test.YtbelgmfhaddhmaaExtH
import Derived.Test.YtbelgmfhaddhmaaOpens
import Derived.Deep.RegionWith
namespace Go.Proofs.Ytbelgmfhaddhmaa.Q
open Go.RowKit Go.Proofs.YtbelgmfhaddhmaaW.PrintWords Go.Proofs.YtbelgmfhaddhmaaW.PrintMore Go.Proofs.Ytbelgmfhaddhmaa.R Go.Proofs.Ytbelgmfhaddhmaa.Pure
attribute [local go_sem] max2_int min2_int max_two min_two max_three min_three max_four min_four
set_option linter.unusedVariables false

/-- 'xs[:k]' of a row of elements of any size. -/
theorem take_run (t e : TypeId) {i : TypeInfo} (ht : Try.prog.underlying t = some (.slice e)) (hi : Try.prog.info? e = some i) (A : Option Addr) (L c k : Nat) (hk : k ≤ L) (hc : L ≤ c) (W : World) :
    (Instr.slice t (.slice A L c) none (some (.int .i64 (k : Int))) none).run Try.prog W = .ok (.slice A k c) W := by
  have hel : Try.prog.elem t = e := by simp [Program.elem, ht]
  have hu : Try.prog.underlying t = some (.slice (Try.prog.elem t)) := by rw [hel]; exact ht
  have ha : (A.map fun x => x.add 0) = A := by cases A <;> simp [Addr.add]
  rw [run_slice_h W t A L c hu .i64 (k : Int) (by omega) (by omega), hel]
  simp [sizeOf, typeInfo, hi, sliced, Result.andThen, ha]
theorem info54 : ∃ i, Try.prog.info? 54 = some i := by
  refine Option.isSome_iff_exists.1 ?_
  kernel_rfl
/-- An element of the row. -/
theorem act_at {W : World} {A : Option Addr} {l : List (Int × Int)} (h : ReadsRow (fun (p : Int × Int) c => c = [.int .i64 p.1, .int .u8 p.2]) 2 W A l.length l) (i : Nat) (hi : i < l.length) :
    ∃ ad, A = some ad ∧ W.cell? (ad.add (i * 2)) = some (.int .i64 (l.getD i (0, 0)).1) ∧ W.cell? (ad.add (i * 2 + 1)) = some (.int .u8 (l.getD i (0, 0)).2) := by
  obtain ⟨ad, c, hA, _, hR, hc⟩ := h.get_ (0, 0) (i : Int) (by omega) (by omega)
  subst hR
  exact ⟨ad, hA, by simpa using hc 0 _ rfl, by simpa using hc 1 _ rfl⟩
theorem qt_bound : ∀ (m : Nat) (l : List Int), l.length ≤ m → ∀ (out : List Int) (n : Nat) (o : List Int) (k : Nat), qt out l n = some (o, k) → n < k ∧ k ≤ n + l.length := by
  intro m
  induction m with
  | zero =>
    intro l hl out n o k h
    obtain rfl : l = [] := List.eq_nil_of_length_eq_zero (by omega)
    cases h
  | succ m ih =>
    intro l hl out n o k h
    cases l with
    | nil => cases h
    | cons b cs =>
      rw [List.length_cons] at hl ⊢
      rw [qt_cons] at h
      split at h
      · cases h; omega
      · split at h
        · cases cs with
          | nil => cases h
          | cons c cs' =>
            rw [List.length_cons] at hl ⊢
            have h : (if vaI c = true then qt (out ++ [c]) cs' (n + 2) else none) = some (o, k) := h
            split at h
            · have := ih cs' (by omega) _ _ _ _ h; omega
            · cases h
        · split at h
          · have := ih cs (by omega) _ _ _ _ h; omega
          · cases h
theorem quoted_bound {L : ByteArray} {o : List Int} {k : Nat} (h : Q.quoted L = some (o, k)) : 0 < k ∧ k ≤ L.size := by
  rw [Q.quoted] at h
  have hl := bytesOf_length L
  cases hb : bytesOf L with
  | nil => rw [hb] at h; cases h
  | cons b cs =>
    rw [hb] at h hl
    rw [List.length_cons] at hl
    have h : (if b = 34 then qt [] cs 1 else none) = some (o, k) := h
    split at h
    · have := qt_bound _ cs (Nat.le_refl _) _ _ _ _ h; omega
    · cases h
set_option maxHeartbeats 4000000 in
set_option maxRecDepth 100000 in
theorem plays_walk (a0 : ByteArray) (A : Option Addr) (L C : Nat) (l : List (Int × Int)) (W : World) (hs : a0.size ≤ 140737488351232) (hl : CameA W A L C l) :
    Calls Try.prog 11 #[.string a0, .slice A L C] W fun e w' => e = .returned (.bool true) ∧ Below W.heap.size W w' := by
  obtain ⟨rfl, hcap, hfew, hoct, hread⟩ := hl
  obtain ⟨m, hm, hm1, hm2⟩ := min_in a0 1000 (.inl rfl)
  have hm : (if (1000 : Int) < (a0.size : Int) then 1000 else (a0.size : Int)) = (m : Int) := hm
  have hm3 : (m : Int) ≤ (a0.size : Int) := by omega
  obtain ⟨n, hn, hn1, hn2⟩ : ∃ n : Nat, (if (40 : Int) < (l.length : Int) then 40 else (l.length : Int)) = (n : Int) ∧ n ≤ l.length ∧ n ≤ 40 := by
    by_cases h : (40 : Int) < (l.length : Int)
    · exact ⟨40, if_pos h, by omega, Nat.le_refl _⟩
    · exact ⟨l.length, if_neg h, Nat.le_refl _, by omega⟩
  obtain ⟨i54, hi54⟩ := info54
  have htk := take_run 52 54 Try.underlying52 hi54 A l.length C n hn1 hcap
  have hz : (a0.extract 0 m).size ≤ 1000 := by rw [ByteArray.size_extract]; omega
  obtain ⟨s, hsd⟩ : ∃ s, s = a0.extract 0 m := ⟨_, rfl⟩
  rw [← hsd] at hz
  have HSD := Lib.hid hsd
  have HRD := Aside0.mk hread
  have HOC := Aside0.mk hoct
  have HZ := Aside0.mk hz
  have HN := Aside0.mk hn1
  clear hsd hm1 hm2 hn1 hread hoct hz hs
  go_enter Try.func11, Try.ntmps11
  go_wp2
  go_quiet (fail)
  go_wp2_with fail
  rw [← HSD.out]
  refine (new_any s (by have := HZ.out; omega) _).mono ?_
  rintro e w1 ⟨rfl, hc, hb⟩
  have HB1 := Aside0.mk (below_step (pw_below_drewN (Below.refl _ _) _) hb)
  obtain ⟨g, hg⟩ : ∃ g, g = (W.drewN nq).heap.size := ⟨_, rfl⟩
  have hgW : W.heap.size ≤ g := by rw [hg]; exact Nat.le_refl _
  rw [← hg] at hc ⊢
  have HC1 := Aside0.mk hc
  clear hb hc hg hm hm3 hn htk
  go_wp2
  go_loopg [0, 28] n (fun k v0 v28 wr => ∃ (i : Nat) (t : ByteArray), v28 = .int .i64 (i : Int) ∧ v0 = .string t ∧ Aside0 (n - i ≤ k) ∧ Aside0 (i ≤ n) ∧ Aside0 (t.size ≤ 1000) ∧ Aside0 (CurL wr g t) ∧ Aside0 (Below W.heap.size W wr))
  case atStart => exact ⟨0, s, rfl, rfl, ⟨Nat.le_refl _⟩, ⟨Nat.zero_le _⟩, HZ, HC1, HB1⟩
  case round =>
    clear HB1 HC1 HSD
    obtain ⟨i, t, rfl, rfl, HK, HI, HT, HC, HB⟩ := hrel
    have hki := HK.out
    have hin := HI.out
    have hnl := HN.out
    have htz := HT.out
    by_cases hlt : i < n
    · obtain ⟨ad, hA, c0, c1⟩ := act_at (HRD.out.imp_ HB.out (fun _ _ h => h)) i (by omega)
      subst hA
      obtain ⟨⟨d, b⟩, hp⟩ : ∃ p, p = l.getD i (0, 0) := ⟨_, rfl⟩
      rw [← hp] at c0 c1
      rw [add_field ad (i * 2) 1 (by decide)] at c1
      have hbr : 0 ≤ b ∧ b ≤ 255 := by
        have : (d, b) ∈ l := by
          rw [hp, List.getD_eq_getElem?_getD, List.getElem?_eq_getElem (by omega)]
          exact List.getElem_mem _
        exact HOC.out _ this
      clear hp
      have hi0 : (0 : Int) ≤ (i : Int) := by omega
      have hi1 : (i : Int) < (n : Int) := by omega
      have HBR := Aside0.mk hbr
      have hcs : Aside0 (i + 1 ≤ n ∧ n - (i + 1) ≤ gk - 1 ∧ gk - 1 < gk) := ⟨by omega⟩
      clear hki hin hnl hlt hbr
      by_cases h1 : d = 1
      · subst h1
        have HC1 := Aside0.mk (HC.out.below (below_alloc (Below.refl wr.heap.size wr) (.cells #[.int .i64 1, .int .u8 b] 54 (0, 0))))
        have HB1 := Aside0.mk (below_alloc HB.out (.cells #[.int .i64 1, .int .u8 b] 54 (0, 0)))
        have HG1 := Aside0.mk (blk_new wr (.cells #[.int .i64 1, .int .u8 b] 54 (0, 0)))
        by_cases h0 : 0 < t.size
        · have hx : ∀ h : 0 < t.size, ((t[0]'h).toNat : Int) = bt t 0 := fun h => bt_at t 0 h
          have hp0 : (0 : Int) < (t.size : Int) := by omega
          have hp1 : decide ((0 : Int) < (t.size : Int)) = true := decide_eq_true hp0
          have hp2 : decide (0 < t.size) = true := decide_eq_true h0
          by_cases hb0 : bt t 0 = b
          · have HY := Aside0.mk h0
            have HYB := Aside0.mk hb0
            rw [hb0] at hx
            have hk1 : (1 : Int) ≤ (t.size : Int) := by omega
            clear h0 hb0
            go_wp2
            go_quiet (fail)
            go_wp2_with fail
            refine (byte_yes _ _ _ _ (HC1.out.below (pw_below_drewN (Below.refl _ _) _)) HY.out HYB.out).mono ?_
            rintro e w4 ⟨rfl, hc, hE⟩
            have HB2 := Aside0.mk (pw_below_drewN HB1.out nq)
            have HC4 : Aside0 (CurL w4 g (t.extract 1 t.size)) := ⟨hc⟩
            have HB4 := Aside0.mk (hE.below HB2.out HB2.out.size hgW)
            clear hc hE
            have huu : ((t.extract 1 t.size).toList != (t.extract 1 t.size).toList) = false := by simp
            have hue : ((t.extract 1 t.size).toList.isEmpty != (t.extract 1 t.size).toList.isEmpty) = false := by simp
            have hzu : (t.extract 1 t.size).size ≤ 1000 := by rw [ByteArray.size_extract]; omega
            have HZU := Aside0.mk hzu
            clear hzu htz
            go_wp2_with fail
            refine (left_any _ _ _ HC4.out).mono ?_
            rintro e w5 ⟨rfl, hb⟩
            have HC5 := Aside0.mk (HC4.out.below hb)
            have HB5 := Aside0.mk (below_step HB4.out hb)
            clear hb
            go_wp2_with fail
            refine (done_any _ _ _ HC5.out).mono ?_
            rintro e w6 ⟨rfl, hb⟩
            have HC6 := Aside0.mk (HC5.out.below hb)
            have HB6 := Aside0.mk (below_step HB5.out hb)
            clear hb
            go_wp2
            go_roundg (gk - 1)
            case measure => exact hcs.out.2.2
            case rel => exact ⟨i + 1, t.extract 1 t.size, by go_num, rfl, ⟨hcs.out.2.1⟩, ⟨hcs.out.1⟩, HZU, HC6, HB6⟩
          · have hne : (bt t 0 == b) = false := beq_eq_false_iff_ne.mpr hb0
            have HY := Aside0.mk hb0
            clear h0 hb0
            go_wp2
            go_quiet (fail)
            go_wp2_with fail
            refine (byte_no _ _ _ _ (HC1.out.below (pw_below_drewN (Below.refl _ _) _)) (fun _ => HY.out)).mono ?_
            rintro e w4 ⟨rfl, hb⟩
            have HC4 := Aside0.mk ((HC1.out.below (pw_below_drewN (Below.refl _ _) nq)).below hb)
            have HB4 := Aside0.mk (below_step (pw_below_drewN HB1.out nq) hb)
            clear hb
            have huu : ((t).toList != (t).toList) = false := by simp
            have hue : ((t).toList.isEmpty != (t).toList.isEmpty) = false := by simp
            have hzu : (t).size ≤ 1000 := by omega
            have HZU := Aside0.mk hzu
            clear hzu htz
            go_wp2_with fail
            refine (left_any _ _ _ HC4.out).mono ?_
            rintro e w5 ⟨rfl, hb⟩
            have HC5 := Aside0.mk (HC4.out.below hb)
            have HB5 := Aside0.mk (below_step HB4.out hb)
            clear hb
            go_wp2_with fail
            refine (done_any _ _ _ HC5.out).mono ?_
            rintro e w6 ⟨rfl, hb⟩
            have HC6 := Aside0.mk (HC5.out.below hb)
            have HB6 := Aside0.mk (below_step HB5.out hb)
            clear hb
            go_wp2
            go_roundg (gk - 1)
            case measure => exact hcs.out.2.2
            case rel => exact ⟨i + 1, t, by go_num, rfl, ⟨hcs.out.2.1⟩, ⟨hcs.out.1⟩, HZU, HC6, HB6⟩
        · obtain rfl : t = ByteArray.empty := ByteArray.size_eq_zero_iff.1 (by omega)
          clear h0
          go_wp2
          go_quiet (fail)
          go_wp2_with fail
          refine (byte_no _ _ _ _ (HC1.out.below (pw_below_drewN (Below.refl _ _) _)) (fun h => absurd h (by decide))).mono ?_
          rintro e w4 ⟨rfl, hb⟩
          have HC4 := Aside0.mk ((HC1.out.below (pw_below_drewN (Below.refl _ _) nq)).below hb)
          have HB4 := Aside0.mk (below_step (pw_below_drewN HB1.out nq) hb)
          clear hb
          have huu : ((ByteArray.empty).toList != (ByteArray.empty).toList) = false := by simp
          have hue : ((ByteArray.empty).toList.isEmpty != (ByteArray.empty).toList.isEmpty) = false := by simp
          have hzu : (ByteArray.empty).size ≤ 1000 := by decide
          have HZU := Aside0.mk hzu
          clear hzu htz
          go_wp2_with fail
          refine (left_any _ _ _ HC4.out).mono ?_
          rintro e w5 ⟨rfl, hb⟩
          have HC5 := Aside0.mk (HC4.out.below hb)
          have HB5 := Aside0.mk (below_step HB4.out hb)
          clear hb
          go_wp2_with fail
          refine (done_any _ _ _ HC5.out).mono ?_
          rintro e w6 ⟨rfl, hb⟩
          have HC6 := Aside0.mk (HC5.out.below hb)
          have HB6 := Aside0.mk (below_step HB5.out hb)
          clear hb
          go_wp2
          go_roundg (gk - 1)
          case measure => exact hcs.out.2.2
          case rel => exact ⟨i + 1, ByteArray.empty, by go_num, rfl, ⟨hcs.out.2.1⟩, ⟨hcs.out.1⟩, HZU, HC6, HB6⟩
      · by_cases h2 : d = 2
        · subst h2
          obtain ⟨K, hK⟩ : ∃ K, K = spn blI t := ⟨_, rfl⟩
          have hk : K ≤ t.size := by rw [hK]; exact spn_le _ _
          have HR := Aside0.mk (rskip_any t (by omega))
          have HM : Aside0 (∀ w, CurL w g t → Calls Try.prog 56 #[.pointer (some ⟨g, 0, none⟩)] w fun e w' => e = .returned (.int .i64 (K : Int)) ∧ CurL w' g (t.extract K t.size) ∧ Eff g w w') := ⟨fun w h => by rw [hK]; exact skip_any w g t h⟩
          rw [← hK] at HR
          clear hK
          have hk0 : (0 : Int) ≤ (K : Int) := by omega
          have hk1 : (K : Int) ≤ (t.size : Int) := by omega
          have HC1 := Aside0.mk (HC.out.below (below_alloc (Below.refl wr.heap.size wr) (.cells #[.int .i64 2, .int .u8 b] 54 (0, 0))))
          have HB1 := Aside0.mk (below_alloc HB.out (.cells #[.int .i64 2, .int .u8 b] 54 (0, 0)))
          go_wp2_with fail
          refine (HR.out _).mono ?_
          rintro e w2 ⟨rfl, hb⟩
          have HC2 := Aside0.mk (HC1.out.below hb)
          have HB2 := Aside0.mk (below_step HB1.out hb)
          clear hb
          go_wp2_with fail
          refine (HM.out _ HC2.out).mono ?_
          rintro e w4 ⟨rfl, hc, hE⟩
          have HC4 := Aside0.mk hc
          have HB4 := Aside0.mk (hE.below HB2.out HB2.out.size hgW)
          clear hc hE
          have huu : ((t.extract K t.size).toList != (t.extract K t.size).toList) = false := by simp
          have hue : ((t.extract K t.size).toList.isEmpty != (t.extract K t.size).toList.isEmpty) = false := by simp
          have hzu : (t.extract K t.size).size ≤ 1000 := by rw [ByteArray.size_extract]; omega
          have HZU := Aside0.mk hzu
          clear hzu htz
          go_wp2_with fail
          refine (left_any _ _ _ HC4.out).mono ?_
          rintro e w5 ⟨rfl, hb⟩
          have HC5 := Aside0.mk (HC4.out.below hb)
          have HB5 := Aside0.mk (below_step HB4.out hb)
          clear hb
          go_wp2_with fail
          refine (done_any _ _ _ HC5.out).mono ?_
          rintro e w6 ⟨rfl, hb⟩
          have HC6 := Aside0.mk (HC5.out.below hb)
          have HB6 := Aside0.mk (below_step HB5.out hb)
          clear hb
          go_wp2
          go_roundg (gk - 1)
          case measure => exact hcs.out.2.2
          case rel => exact ⟨i + 1, t.extract K t.size, by go_num, rfl, ⟨hcs.out.2.1⟩, ⟨hcs.out.1⟩, HZU, HC6, HB6⟩
        · by_cases h3 : d = 3
          · subst h3
            obtain ⟨K, hK⟩ : ∃ K, K = spn tcI t := ⟨_, rfl⟩
            have hk : K ≤ t.size := by rw [hK]; exact spn_le _ _
            have HR := Aside0.mk (rtoken_any t (by omega))
            have HM : Aside0 (∀ w, CurL w g t → Calls Try.prog 51 #[.pointer (some ⟨g, 0, none⟩)] w fun e w' => e = .returned (.string (t.extract 0 K)) ∧ CurL w' g (t.extract K t.size) ∧ Eff g w w') := ⟨fun w h => by rw [hK]; exact token_any w g t h⟩
            rw [← hK] at HR
            clear hK
            have hss := same_s (t.extract 0 K)
            have hk0 : (0 : Int) ≤ (K : Int) := by omega
            have hk1 : (K : Int) ≤ (t.size : Int) := by omega
            have HC1 := Aside0.mk (HC.out.below (below_alloc (Below.refl wr.heap.size wr) (.cells #[.int .i64 3, .int .u8 b] 54 (0, 0))))
            have HB1 := Aside0.mk (below_alloc HB.out (.cells #[.int .i64 3, .int .u8 b] 54 (0, 0)))
            go_wp2_with fail
            refine (HR.out _).mono ?_
            rintro e w2 ⟨rfl, hb⟩
            have HC2 := Aside0.mk (HC1.out.below hb)
            have HB2 := Aside0.mk (below_step HB1.out hb)
            clear hb
            go_wp2
            go_region_with ((go_at_call 51; refine (HM.out _ (HC2.out.below (pw_below_drewN (Below.refl _ _) 1))).mono ?_; rintro e w4 ⟨rfl, hc, hE⟩))
            have HC4 := Aside0.mk hc
            have HB4 := Aside0.mk (hE.below (pw_below_drewN HB2.out 1) HB2.out.size hgW)
            clear hc hE
            have huu : ((t.extract K t.size).toList != (t.extract K t.size).toList) = false := by simp
            have hue : ((t.extract K t.size).toList.isEmpty != (t.extract K t.size).toList.isEmpty) = false := by simp
            have hzu : (t.extract K t.size).size ≤ 1000 := by rw [ByteArray.size_extract]; omega
            have HZU := Aside0.mk hzu
            clear hzu htz
            go_wp2_with fail
            refine (left_any _ _ _ HC4.out).mono ?_
            rintro e w5 ⟨rfl, hb⟩
            have HC5 := Aside0.mk (HC4.out.below hb)
            have HB5 := Aside0.mk (below_step HB4.out hb)
            clear hb
            go_wp2_with fail
            refine (done_any _ _ _ HC5.out).mono ?_
            rintro e w6 ⟨rfl, hb⟩
            have HC6 := Aside0.mk (HC5.out.below hb)
            have HB6 := Aside0.mk (below_step HB5.out hb)
            clear hb
            go_wp2
            go_roundg (gk - 1)
            case measure => exact hcs.out.2.2
            case rel => exact ⟨i + 1, t.extract K t.size, by go_num, rfl, ⟨hcs.out.2.1⟩, ⟨hcs.out.1⟩, HZU, HC6, HB6⟩
          · by_cases h4 : d = 4
            · subst h4
              obtain ⟨K, hK⟩ : ∃ K, K = spn (neI b) t := ⟨_, rfl⟩
              have hk : K ≤ t.size := by rw [hK]; exact spn_le _ _
              have HR := Aside0.mk (runtil_any t b (by omega))
              have HM : Aside0 (∀ w, CurL w g t → Calls Try.prog 59 #[.pointer (some ⟨g, 0, none⟩), .int .u8 b] w fun e w' => e = .returned (.string (t.extract 0 K)) ∧ CurL w' g (t.extract K t.size) ∧ Eff g w w') := ⟨fun w h => by rw [hK]; exact until_any w g t b h⟩
              rw [← hK] at HR
              clear hK
              have hss := same_s (t.extract 0 K)
              have HG1 := Aside0.mk (blk_new wr (.cells #[.int .i64 4, .int .u8 b] 54 (0, 0)))
              have hk0 : (0 : Int) ≤ (K : Int) := by omega
              have hk1 : (K : Int) ≤ (t.size : Int) := by omega
              have HC1 := Aside0.mk (HC.out.below (below_alloc (Below.refl wr.heap.size wr) (.cells #[.int .i64 4, .int .u8 b] 54 (0, 0))))
              have HB1 := Aside0.mk (below_alloc HB.out (.cells #[.int .i64 4, .int .u8 b] 54 (0, 0)))
              go_wp2_with fail
              refine (HR.out _).mono ?_
              rintro e w2 ⟨rfl, hb⟩
              have HC2 := Aside0.mk (HC1.out.below hb)
              have HB2 := Aside0.mk (below_step HB1.out hb)
              have hcell : w2.cell? ⟨wr.heap.size, 1, none⟩ = some (.int .u8 b) := (blk_cell (blk_below HG1.out hb) 1).trans rfl
              clear hb
              go_wp2
              go_region_with ((go_at_call 59; refine (HM.out _ (HC2.out.below (pw_below_drewN (Below.refl _ _) 1))).mono ?_; rintro e w4 ⟨rfl, hc, hE⟩))
              have HC4 := Aside0.mk hc
              have HB4 := Aside0.mk (hE.below (pw_below_drewN HB2.out 1) HB2.out.size hgW)
              clear hc hE hcell
              have huu : ((t.extract K t.size).toList != (t.extract K t.size).toList) = false := by simp
              have hue : ((t.extract K t.size).toList.isEmpty != (t.extract K t.size).toList.isEmpty) = false := by simp
              have hzu : (t.extract K t.size).size ≤ 1000 := by rw [ByteArray.size_extract]; omega
              have HZU := Aside0.mk hzu
              clear hzu htz
              go_wp2_with fail
              refine (left_any _ _ _ HC4.out).mono ?_
              rintro e w5 ⟨rfl, hb⟩
              have HC5 := Aside0.mk (HC4.out.below hb)
              have HB5 := Aside0.mk (below_step HB4.out hb)
              clear hb
              go_wp2_with fail
              refine (done_any _ _ _ HC5.out).mono ?_
              rintro e w6 ⟨rfl, hb⟩
              have HC6 := Aside0.mk (HC5.out.below hb)
              have HB6 := Aside0.mk (below_step HB5.out hb)
              clear hb
              go_wp2
              go_roundg (gk - 1)
              case measure => exact hcs.out.2.2
              case rel => exact ⟨i + 1, t.extract K t.size, by go_num, rfl, ⟨hcs.out.2.1⟩, ⟨hcs.out.1⟩, HZU, HC6, HB6⟩
            · have q1 : (d == 1) = false := beq_eq_false_iff_ne.mpr h1
              have q2 : (d == 2) = false := beq_eq_false_iff_ne.mpr h2
              have q3 : (d == 3) = false := beq_eq_false_iff_ne.mpr h3
              have q4 : (d == 4) = false := beq_eq_false_iff_ne.mpr h4
              clear h1 h2 h3 h4
              rcases hq : Q.quoted t with _ | ⟨o, K⟩
              · have hq1 : qs t = (⟨#[]⟩ : ByteArray) := by rw [qs, hq]
                have hq2 : qn t = 0 := by rw [qn, hq]
                have HR := Aside0.mk (rquoted_any t (by omega))
                have HM : Aside0 (∀ w, CurL w g t → Calls Try.prog 53 #[.pointer (some ⟨g, 0, none⟩)] w fun e w' => e = .returned (.tuple #[.string ((⟨#[]⟩ : ByteArray)), .bool false]) ∧ CurL w' g (t) ∧ Eff g w w') := ⟨fun w h => by
                  have := quoted_any w g t h
                  unfold QPost at this
                  rw [hq1, hq2, hq] at this
                  rw [ofs, ByteArray.extract_zero_size] at this; exact this⟩
                rw [hq1, hq2] at HR
                clear hq hq1 hq2
                have hss := same_s ((⟨#[]⟩ : ByteArray))
                have HC1 := Aside0.mk (HC.out.below (below_alloc (Below.refl wr.heap.size wr) (.cells #[.int .i64 d, .int .u8 b] 54 (0, 0))))
                have HB1 := Aside0.mk (below_alloc HB.out (.cells #[.int .i64 d, .int .u8 b] 54 (0, 0)))
                go_wp2_with fail
                refine (HR.out _).mono ?_
                rintro e w2 ⟨rfl, hb⟩
                have HC2 := Aside0.mk (HC1.out.below hb)
                have HB2 := Aside0.mk (below_step HB1.out hb)
                clear hb
                go_wp2_with fail
                refine (HM.out _ HC2.out).mono ?_
                rintro e w4 ⟨rfl, hc, hE⟩
                have HC4 := Aside0.mk hc
                have HB4 := Aside0.mk (hE.below HB2.out HB2.out.size hgW)
                clear hc hE
                have huu : ((t).toList != (t).toList) = false := by simp
                have hue : ((t).toList.isEmpty != (t).toList.isEmpty) = false := by simp
                have hzu : (t).size ≤ 1000 := by omega
                have HZU := Aside0.mk hzu
                clear hzu htz
                go_wp2_with fail
                refine (left_any _ _ _ HC4.out).mono ?_
                rintro e w5 ⟨rfl, hb⟩
                have HC5 := Aside0.mk (HC4.out.below hb)
                have HB5 := Aside0.mk (below_step HB4.out hb)
                clear hb
                go_wp2_with fail
                refine (done_any _ _ _ HC5.out).mono ?_
                rintro e w6 ⟨rfl, hb⟩
                have HC6 := Aside0.mk (HC5.out.below hb)
                have HB6 := Aside0.mk (below_step HB5.out hb)
                clear hb
                go_wp2
                go_roundg (gk - 1)
                case measure => exact hcs.out.2.2
                case rel => exact ⟨i + 1, t, by go_num, rfl, ⟨hcs.out.2.1⟩, ⟨hcs.out.1⟩, HZU, HC6, HB6⟩
              · have hq1 : qs t = strOfNums o := by rw [qs, hq]
                have hq2 : qn t = K := by rw [qn, hq]
                have HR := Aside0.mk (rquoted_any t (by omega))
                have HM : Aside0 (∀ w, CurL w g t → Calls Try.prog 53 #[.pointer (some ⟨g, 0, none⟩)] w fun e w' => e = .returned (.tuple #[.string (strOfNums o), .bool true]) ∧ CurL w' g (t.extract K t.size) ∧ Eff g w w') := ⟨fun w h => by
                  have := quoted_any w g t h
                  unfold QPost at this
                  rw [hq1, hq2, hq] at this
                  exact this⟩
                rw [hq1, hq2] at HR
                have hb := quoted_bound hq
                have hk : K ≤ t.size := hb.2
                have hk2 : (0 : Int) < (K : Int) := by omega
                have hk3 : decide ((0 : Int) < (K : Int)) = true := decide_eq_true hk2
                have hk4 : decide (0 < K) = true := decide_eq_true hb.1
                have hk0 : (0 : Int) ≤ (K : Int) := by omega
                have hk1 : (K : Int) ≤ (t.size : Int) := by omega
                clear hb
                clear hq hq1 hq2
                have hss := same_s (strOfNums o)
                have HC1 := Aside0.mk (HC.out.below (below_alloc (Below.refl wr.heap.size wr) (.cells #[.int .i64 d, .int .u8 b] 54 (0, 0))))
                have HB1 := Aside0.mk (below_alloc HB.out (.cells #[.int .i64 d, .int .u8 b] 54 (0, 0)))
                go_wp2_with fail
                refine (HR.out _).mono ?_
                rintro e w2 ⟨rfl, hb⟩
                have HC2 := Aside0.mk (HC1.out.below hb)
                have HB2 := Aside0.mk (below_step HB1.out hb)
                clear hb
                go_wp2_with fail
                refine (HM.out _ HC2.out).mono ?_
                rintro e w4 ⟨rfl, hc, hE⟩
                have HC4 := Aside0.mk hc
                have HB4 := Aside0.mk (hE.below HB2.out HB2.out.size hgW)
                clear hc hE
                have huu : ((t.extract K t.size).toList != (t.extract K t.size).toList) = false := by simp
                have hue : ((t.extract K t.size).toList.isEmpty != (t.extract K t.size).toList.isEmpty) = false := by simp
                have hzu : (t.extract K t.size).size ≤ 1000 := by rw [ByteArray.size_extract]; omega
                have HZU := Aside0.mk hzu
                clear hzu htz
                go_wp2_with fail
                refine (left_any _ _ _ HC4.out).mono ?_
                rintro e w5 ⟨rfl, hb⟩
                have HC5 := Aside0.mk (HC4.out.below hb)
                have HB5 := Aside0.mk (below_step HB4.out hb)
                clear hb
                go_wp2_with fail
                refine (done_any _ _ _ HC5.out).mono ?_
                rintro e w6 ⟨rfl, hb⟩
                have HC6 := Aside0.mk (HC5.out.below hb)
                have HB6 := Aside0.mk (below_step HB5.out hb)
                clear hb
                go_wp2
                go_roundg (gk - 1)
                case measure => exact hcs.out.2.2
                case rel => exact ⟨i + 1, t.extract K t.size, by go_num, rfl, ⟨hcs.out.2.1⟩, ⟨hcs.out.1⟩, HZU, HC6, HB6⟩
    · have hi1 : ¬ (i : Int) < (n : Int) := by omega
      go_wp2_with fail
      refine (lives4_any _).mono ?_
      rintro e w5 ⟨rfl, hb⟩
      have HB5 := Aside0.mk (below_step HB.out hb)
      clear hb
      go_wp2
      go_ret
      exact ⟨rfl, HB5.out⟩
end Go.Proofs.Ytbelgmfhaddhmaa.Q
