/- The walk of TrailerMerges. -/
import Derived.Test.YtbelgmfhaddhmaaPureT
namespace Go.Proofs.Ytbelgmfhaddhmaa.T
open Go.RowKit Go.Proofs.YtbelgmfhaddhmaaW.PrintWords Go.Proofs.YtbelgmfhaddhmaaW.PrintLast Go.Proofs.YtbelgmfhaddhmaaW.PrintMore Go.Proofs.Ytbelgmfhaddhmaa.Q Go.Proofs.Ytbelgmfhaddhmaa.Pure
set_option linter.unusedVariables false
set_option linter.unusedSimpArgs false
theorem few_any (A : Option Addr) (c : Nat) (l : List S44) (w : World) (hr : Kd.C k44 w A l.length l) (hc : l.length ≤ c) : Calls Try.prog 38 #[.slice A l.length c] w fun e w' => e = .returned (.bool (fewF l)) ∧ Below w.heap.size w w' := by
  obtain ⟨k, hk⟩ := (fewF_ev l).rounds
  exact abutmentlaw10_Few.calls k A c l _ w hr hc hk
theorem sameF_any (A : Option Addr) (c : Nat) (A' : Option Addr) (c' : Nat) (l : List S44) (w : World) (hl : l.length ≤ 1000000) (hr : Kd.C k44 w A l.length l) (hc : l.length ≤ c) (hr' : Kd.C k44 w A' l.length l) (hc' : l.length ≤ c') : Calls Try.prog 42 #[.slice A l.length c, .slice A' l.length c'] w fun e w' => e = .returned (.bool true) ∧ Below w.heap.size w w' := by
  obtain ⟨k, hk⟩ := (sameF_ev l hl).rounds
  exact (abutmentref09_Same.calls k A c l A' c' l _ w hr hc hr' hc' hk).mono (fun e w' h => ⟨h.1, h.2.below⟩)
theorem lives26_any (w : World) : Calls Try.prog 39 #[] w fun e w' => e = .returned (.bool true) ∧ Below w.heap.size w w' := abutmentlaw26_lives.calls true w lives26_f
theorem keep_keep (l : List S44) : keepL (keepL l) = keepL l := by
  unfold keepL
  rw [List.filter_filter]
  congr 1
  funext p
  exact Bool.and_self _
set_option maxHeartbeats 4000000 in
set_option maxRecDepth 100000 in
theorem merges_none (A : Option Addr) (C : Nat) (l : List S44) (A' : Option Addr) (C' : Nat) (t : List S44) (w : World) (hr : Kd.C k44 w A l.length l) (hc : l.length ≤ C) (hr' : Kd.C k44 w A' t.length t) (hc' : t.length ≤ C') (hn : fewF l = false ∨ fewF t = false) : Calls Try.prog 9 #[.slice A l.length C, .slice A' t.length C'] w fun e w' => e = .returned (.bool true) ∧ Below w.heap.size w w' := by
  have HF1 := Aside0.mk (fun w hr => few_any A C l w hr hc)
  have HF2 := Aside0.mk (fun w hr => few_any A' C' t w hr hc')
  have HR := Aside0.mk hr
  have HR' := Aside0.mk hr'
  clear hr hc hr' hc'
  cases h1 : fewF l with
  | false =>
    rw [h1] at HF1
    clear h1 hn
    go_enter Try.func9, Try.ntmps9
    go_wp2_with fail
    refine (HF1.out _ HR.out).mono ?_
    rintro e w1 ⟨rfl, hb⟩
    have HB1 := Aside0.mk hb
    clear hb
    go_wp2_with fail
    refine (lives26_any _).mono ?_
    rintro e w2 ⟨rfl, hb⟩
    have HB2 := Aside0.mk (below_step HB1.out hb)
    clear hb
    go_wp2
    go_ret
    exact ⟨rfl, HB2.out⟩
  | true =>
    have h2 : fewF t = false := hn.resolve_left (by rw [h1]; decide)
    rw [h1] at HF1
    rw [h2] at HF2
    clear h1 h2 hn
    go_enter Try.func9, Try.ntmps9
    go_wp2_with fail
    refine (HF1.out _ HR.out).mono ?_
    rintro e w1 ⟨rfl, hb⟩
    have HB1 := Aside0.mk hb
    clear hb
    go_wp2_with fail
    refine (HF2.out _ (Kd.C_below HR'.out HB1.out)).mono ?_
    rintro e w2 ⟨rfl, hb⟩
    have HB2 := Aside0.mk (below_step HB1.out hb)
    clear hb
    go_wp2_with fail
    refine (lives26_any _).mono ?_
    rintro e w3 ⟨rfl, hb⟩
    have HB3 := Aside0.mk (below_step HB2.out hb)
    clear hb
    go_wp2
    go_ret
    exact ⟨rfl, HB3.out⟩
set_option maxHeartbeats 4000000 in
set_option maxRecDepth 100000 in
theorem merges_main (A : Option Addr) (C : Nat) (l : List S44) (A' : Option Addr) (C' : Nat) (t : List S44) (w : World) (hr : Kd.C k44 w A l.length l) (hc : l.length ≤ C) (hr' : Kd.C k44 w A' t.length t) (hc' : t.length ≤ C') (h1 : fewF l = true) (h2 : fewF t = true) : Calls Try.prog 9 #[.slice A l.length C, .slice A' t.length C'] w fun e w' => e = .returned (.bool true) ∧ Below w.heap.size w w' := by
  have f1 := few_of h1
  have f2 := few_of h2
  have hl := f1.len
  have ht := f2.len
  have hkl := (keep_few f1).len
  have hml := merge_len l t f1 f2
  have HF1 := Aside0.mk (fun w hr => few_any A C l w hr hc)
  have HF2 := Aside0.mk (fun w hr => few_any A' C' t w hr hc')
  rw [h1] at HF1
  rw [h2] at HF2
  have HKP := Aside0.mk (fun w hr => keep_any A C l w hr hc (by omega))
  have HMG := Aside0.mk (fun w hr hr' => merge_any A C l A' C' t w hr hc (by omega) hr' hc' (by omega) (fun p hp => by have := f2.sz p hp; omega))
  have HR := Aside0.mk hr
  have HR' := Aside0.mk hr'
  have HC := Aside0.mk hc
  have HC' := Aside0.mk hc'
  have HFW := Aside0.mk f1
  have HFT := Aside0.mk f2
  have hM1 : (mergeL l t).take l.length = l := by rw [mergeL, List.take_left]
  have hM2 : (mergeL l t).drop l.length = (keepL t).filter fun p => freeB l p.f0 := by rw [mergeL, List.drop_left]
  have hM3 : l.length ≤ (mergeL l t).length := by rw [mergeL, List.length_append]; omega
  obtain ⟨K, hK⟩ : ∃ K, K = keepL l := ⟨_, rfl⟩
  have HKK : Hid (keepL K = K) := Lib.hid (by rw [hK]; exact keep_keep l)
  have HKE := Lib.hid hK
  obtain ⟨M, hM⟩ : ∃ M, M = mergeL l t := ⟨_, rfl⟩
  have HME := Lib.hid hM
  rw [← hM] at hM1 hM2 hM3 hml
  rw [← hK] at hkl
  have HM1 := Lib.hid hM1
  have HM2 := Lib.hid hM2
  clear hr hc hr' hc' h1 h2 f1 f2 hK hM hM1 hM2
  go_enter Try.func9, Try.ntmps9
  go_wp2_with fail
  refine (HF1.out _ HR.out).mono ?_
  rintro e w1 ⟨rfl, hb⟩
  have HB1 := Aside0.mk hb
  clear hb
  go_wp2_with fail
  refine (HF2.out _ (Kd.C_below HR'.out HB1.out)).mono ?_
  rintro e w2 ⟨rfl, hb⟩
  have HB2 := Aside0.mk (below_step HB1.out hb)
  clear hb HB1
  go_wp2_with fail
  refine (HKP.out _ (Kd.C_below HR.out HB2.out)).mono ?_
  rintro e w3 ⟨v5, rfl, ho, hb⟩
  rw [← HKE.out] at ho
  obtain ⟨A5, c5, hv5, hc5, hr5⟩ := Kd.R_reads ho
  subst hv5
  have HB3 := Aside0.mk (below_step HB2.out hb)
  have HR5 := Aside0.mk hr5
  have HC5 := Aside0.mk hc5
  clear ho hb hr5 hc5 HB2
  go_wp2_with fail
  refine (HMG.out _ (Kd.C_below HR.out HB3.out) (Kd.C_below HR'.out HB3.out)).mono ?_
  rintro e w4 ⟨v6, rfl, ho, hb⟩
  rw [← HME.out] at ho
  obtain ⟨A6, c6, hv6, hc6, hr6⟩ := Kd.R_reads ho
  subst hv6
  have HB4 := Aside0.mk (below_step HB3.out hb)
  have HR5b := Aside0.mk (Kd.C_below HR5.out hb)
  have HR6 := Aside0.mk hr6
  clear ho hb hr6 HB3 HR5
  go_wp2_with fail
  refine (keep_any A5 c5 K w4 HR5b.out HC5.out (by omega)).mono ?_
  rintro e w5 ⟨v7, rfl, ho, hb⟩
  rw [HKK.out] at ho
  obtain ⟨A7, c7, hv7, hc7, hr7⟩ := Kd.R_reads ho
  subst hv7
  have HB5 := Aside0.mk (below_step HB4.out hb)
  have HR5c := Aside0.mk (Kd.C_below HR5b.out hb)
  have HR6b := Aside0.mk (Kd.C_below HR6.out hb)
  have HR7 := Aside0.mk hr7
  have HC7 := Aside0.mk hc7
  clear ho hb hr7 hc7 HB4 HR5b HR6
  go_wp2_with fail
  refine (sameF_any A7 c7 A5 c5 K w5 (by omega) HR7.out HC7.out HR5c.out HC5.out).mono ?_
  rintro e w6 ⟨rfl, hb⟩
  have HB6 := Aside0.mk (below_step HB5.out hb)
  have HR6c := Aside0.mk (Kd.C_below HR6b.out hb)
  clear hb HB5 HR6b HR5c HR7 HC7
  have hlt : decide (M.length < l.length) = false := decide_eq_false (by omega)
  have hcap : (l.length : Int) ≤ (c6 : Int) := by omega
  have hcap2 : (l.length : Int) ≤ (M.length : Int) := by omega
  go_wp2_with fail
  have HTK := Aside0.mk (Kd.C_take HR6c.out hM3)
  rw [HM1.out] at HTK
  refine (sameF_any A6 c6 A C l w6 (by omega) HTK.out (by omega) (Kd.C_below HR.out HB6.out) HC.out).mono ?_
  rintro e w7 ⟨rfl, hb⟩
  have HB7 := Aside0.mk (below_step HB6.out hb)
  have HR6d := Aside0.mk (Kd.C_below HR6c.out hb)
  clear hb HB6 HR6c HTK
  by_cases hD : M.length = l.length
  · by_cases hce : c6 = l.length
    · go_wp2
      go_loopg [49] 1 (fun k v49 wr => v49 = .int .i64 0 ∧ Aside0 (Below w.heap.size w wr))
      case atStart => exact ⟨rfl, HB7⟩
      case round =>
        obtain ⟨rfl, HB⟩ := hrel
        go_wp2_with fail
        refine (lives26_any _).mono ?_
        rintro e w8 ⟨rfl, hb⟩
        have HB8 := Aside0.mk (below_step HB.out hb)
        clear hb
        go_wp2
        go_ret
        exact ⟨rfl, HB8.out⟩
    · go_wp2
      go_loopg [49] 1 (fun k v49 wr => v49 = .int .i64 0 ∧ Aside0 (Below w.heap.size w wr))
      case atStart => exact ⟨rfl, HB7⟩
      case round =>
        obtain ⟨rfl, HB⟩ := hrel
        go_wp2_with fail
        refine (lives26_any _).mono ?_
        rintro e w8 ⟨rfl, hb⟩
        have HB8 := Aside0.mk (below_step HB.out hb)
        clear hb
        go_wp2
        go_ret
        exact ⟨rfl, HB8.out⟩
  · have hce : ¬ c6 = l.length := by omega
    obtain ⟨D, hDD⟩ : ∃ D, D = M.drop l.length := ⟨_, rfl⟩
    have hDl : D.length = M.length - l.length := by rw [hDD, List.length_drop]
    have HIN : Aside0 (∀ p ∈ D, allowedB p.f0 = true ∧ freeB l p.f0 = true ∧ p ∈ t) := ⟨fun p hp => by
      rw [hDD, HM2.out] at hp
      have h3 := List.mem_filter.1 hp
      have h4 := List.mem_filter.1 h3.1
      exact ⟨h4.2, h3.2, h4.1⟩⟩
    have hR8 := Kd.C_drop (c := c6) HR6d.out hM3 (by omega)
    rw [if_neg hce, ← hDD] at hR8
    obtain ⟨ad, hA, _⟩ := HR6d.out.2.2 (by omega)
    subst hA
    have HR8 : Aside0 (Kd.C k44 w7 (some (ad.add (l.length * 2))) D.length D) := ⟨hR8⟩
    have HDL := Lib.hid hDl
    have hmd : (M.length : Int) - (l.length : Int) = (D.length : Int) := by omega
    have hmn : M.length - l.length = D.length := hDl.symm
    clear hR8 hDD hDl
    go_wp2
    obtain ⟨bd, hbd⟩ : ∃ bd, ad.add (l.length * 2) = bd := ⟨_, rfl⟩
    rw [hbd] at HR8 ⊢
    clear hbd hmd hmn
    have hDsz : D.length ≤ 1000000 := by rw [HDL.out]; omega
    have HLT : Aside0 (l.length ≤ 1000000 ∧ t.length ≤ 1000000) := ⟨by omega⟩
    go_loopg [49] D.length (fun k v49 wr => ∃ i : Nat, v49 = .int .i64 (i : Int) ∧ Aside0 (i ≤ D.length ∧ D.length - i ≤ k) ∧ Aside0 (Below w7.heap.size w7 wr))
    case atStart => exact ⟨0, rfl, ⟨by omega⟩, ⟨Below.refl _ _⟩⟩
    case round =>
      obtain ⟨i, rfl, HI, HB⟩ := hrel
      obtain ⟨hi0, hk⟩ := HI.out
      have HBW := Aside0.mk (below_step HB7.out HB.out)
      by_cases hi : i < D.length
      · have hiI : (i : Int) < (D.length : Int) := by omega
        obtain ⟨p, hp⟩ : ∃ p, p = rd_T44 D (i : Int) := ⟨_, rfl⟩
        have hpl : p = D[i] := by rw [hp]; exact rdF_at D i hi
        obtain ⟨p1, p2, p3⟩ := HIN.out p (by rw [hpl]; exact List.getElem_mem hi)
        have hps := HFT.out.sz p p3
        obtain ⟨bd', hbe, hx0, hx1⟩ := at_T44 (Kd.C_below HR8.out HB.out) (i : Int) (by omega) hiI
        obtain rfl : bd = bd' := by injection hbe
        rw [← hp, Int.toNat_natCast] at hx0 hx1
        have HAL : Aside0 (∀ w, Calls Try.prog 40 #[.string p.f0] w fun e w' => e = .returned (.bool true) ∧ Below w.heap.size w w') := ⟨fun w => by rw [← p1]; exact allowed_any p.f0 w⟩
        have hz : ((ofName p.f0 l).length : Int) = 0 := beq_iff_eq.mp p2
        have HC1 : Aside0 (∀ w, Kd.C k44 w A l.length l → Calls Try.prog 47 #[.slice A l.length C, .string p.f0] w fun e w' => e = .returned (.int .i64 0) ∧ Below w.heap.size w w') := ⟨fun w hr => by
          have := header_Count.calls A C l p.f0 _ w hr HC.out (by rw [header_Count.f, if_pos ⟨HLT.out.1, by omega⟩])
          rwa [hz] at this⟩
        obtain ⟨m, hm⟩ : ∃ m : Nat, m = (ofName p.f0 t).length := ⟨_, rfl⟩
        have hm1 : 1 ≤ m := by
          rw [hm]
          refine List.length_pos_of_mem (a := p) (List.mem_filter.2 ⟨p3, ?_⟩)
          simp [foldB]
        have HC2 : Aside0 (∀ w, Kd.C k44 w A' t.length t → Calls Try.prog 47 #[.slice A' t.length C', .string p.f0] w fun e w' => e = .returned (.int .i64 (m : Int)) ∧ Below w.heap.size w w') := ⟨fun w hr => by
          rw [hm]
          exact header_Count.calls A' C' t p.f0 _ w hr HC'.out (by rw [header_Count.f, if_pos ⟨HLT.out.2, by omega⟩])⟩
        have hmz : ((m : Int) == 0) = false := beq_eq_false_iff_ne.mpr (by omega)
        have hba : Below wr.heap.size wr (wr.alloc (.cells #[.string p.f0, .string p.f1] 44 (0, 0))) := below_alloc (Below.refl _ _) _
        have HBA := Aside0.mk (below_step HB.out hba)
        have HPA := Aside0.mk (blk_new wr (.cells #[.string p.f0, .string p.f1] 44 (0, 0)))
        clear hp hpl p1 p2 p3 hps hbe hz hm hm1 hba
        go_wp2_with fail
        obtain ⟨gp, hgp⟩ : ∃ gp, wr.heap.size = gp := ⟨_, rfl⟩
        obtain ⟨za, hza⟩ : ∃ za, wr.alloc (.cells #[.string p.f0, .string p.f1] 44 (0, 0)) = za := ⟨_, rfl⟩
        rw [hza] at HBA HPA ⊢
        rw [hgp] at HPA ⊢
        clear hza hgp hx0 hx1
        refine (HAL.out _).mono ?_
        rintro e w8 ⟨rfl, hb⟩
        have HB8 := Aside0.mk (below_step HBA.out hb)
        have HP8 := Aside0.mk (blk_below HPA.out hb)
        have hc8 := (blk_cell HP8.out 0).trans rfl
        clear hb
        go_wp2_with fail
        refine (HC1.out _ (Kd.C_below HR.out (below_step HB7.out HB8.out))).mono ?_
        rintro e w9 ⟨rfl, hb⟩
        have HB9 := Aside0.mk (below_step HB8.out hb)
        have HP9 := Aside0.mk (blk_below HP8.out hb)
        clear hb hc8
        have hc9 := (blk_cell HP9.out 0).trans rfl
        go_wp2_with fail
        refine (HC2.out _ (Kd.C_below HR'.out (below_step HB7.out HB9.out))).mono ?_
        rintro e w10 ⟨rfl, hb⟩
        have HB10 := Aside0.mk (below_step HB9.out hb)
        clear hb hc9
        go_wp2
        go_roundg (gk - 1)
        case measure => omega
        case rel => exact ⟨i + 1, rfl, ⟨by omega⟩, HB10⟩
      · have hiI : ¬ (i : Int) < (D.length : Int) := by omega
        go_wp2_with fail
        refine (lives26_any _).mono ?_
        rintro e w8 ⟨rfl, hb⟩
        have HB8 := Aside0.mk (below_step HBW.out hb)
        clear hb
        go_wp2
        go_ret
        exact ⟨rfl, HB8.out⟩
theorem merges_walk (A : Option Addr) (L C : Nat) (l : List S44) (A' : Option Addr) (L' C' : Nat) (t : List S44) (W : World) (h : Came44 W A L C l) (h' : Came44 W A' L' C' t) : Calls Try.prog 9 #[.slice A L C, .slice A' L' C'] W fun e w' => e = .returned (.bool true) ∧ Below W.heap.size W w' := by
  obtain ⟨hl, hc, _, hr⟩ := h
  subst hl
  obtain ⟨hl', hc', _, hr'⟩ := h'
  subst hl'
  cases h1 : fewF l with
  | false => exact merges_none A C l A' C' t W hr hc hr' hc' (.inl h1)
  | true =>
    cases h2 : fewF t with
    | false => exact merges_none A C l A' C' t W hr hc hr' hc' (.inr h2)
    | true => exact merges_main A C l A' C' t W hr hc hr' hc' h1 h2
end Go.Proofs.Ytbelgmfhaddhmaa.T
