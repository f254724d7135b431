/- The walk of the reference's Param. -/
import Derived.Test.YtbelgmfhaddhmaaPureU
import Derived.Test.YtbelgmfhaddhmaaExtH
namespace Go.Proofs.Ytbelgmfhaddhmaa.V
open Go.RowKit Go.Proofs.YtbelgmfhaddhmaaW.PrintWords Go.Proofs.YtbelgmfhaddhmaaW.PrintLast Go.Proofs.YtbelgmfhaddhmaaW.PrintMore Go.Proofs.Ytbelgmfhaddhmaa.Q Go.Proofs.Ytbelgmfhaddhmaa.R Go.Proofs.Ytbelgmfhaddhmaa.Pure
set_option linter.unusedVariables false
set_option linter.unusedSimpArgs false
theorem rlower_any (s : ByteArray) (hs : s.size ≤ 140737488351232) (w : World) : Calls Try.prog 24 #[.string s] w fun e w' => e = .returned (.string (lowS s)) ∧ Below w.heap.size w w' := by
  obtain ⟨k, hk⟩ := (rlower_ev s hs).rounds
  exact abutmentref01_Lower.calls k s _ w hk
/-- A call that tells a number. -/
abbrev Nums (f : Nat) (s : ByteArray) (n : Nat) : Prop := ∀ w, Calls Try.prog f #[.string s] w fun e w' => e = .returned (.int .i64 (n : Int)) ∧ Below w.heap.size w w'
/-- What Param comes to. -/
abbrev PPost (w : World) (a b c : ByteArray) (d : Bool) (e : Ending) (w' : World) : Prop := e = .returned (.tuple #[.agg #[.string a, .string b], .string c, .bool d]) ∧ Below w.heap.size w w'
set_option maxHeartbeats 4000000 in
set_option maxRecDepth 100000 in
theorem param_a (L T K M U N R K2 M2 V2 : ByteArray) (a c n i c2 n2 : Nat) (b b2 : Int) (w : World) (hT : Hid (L.extract a L.size = T)) (ha : (a : Int) ≤ (L.size : Int)) (H1 : Aside0 (Nums 55 L a))
    (hz : ((T.size : Int) == 0) = true) : Calls Try.prog 97 #[.string L] w (PPost w ⟨#[]⟩ ⟨#[]⟩ ⟨#[]⟩ false) := by
  have hu70 := Try.underlying70
  go_enter Try.func97, Try.ntmps97
  go_wp2_with fail
  obtain ⟨z1, hz1⟩ : ∃ z1, w.alloc (.cells #[.string ⟨#[]⟩, .string ⟨#[]⟩] 70 (0, 0)) = z1 := ⟨_, rfl⟩
  have HG1 : Aside0 (z1.heap[w.heap.size]? = some (.cells #[.string ⟨#[]⟩, .string ⟨#[]⟩] 70 (0, 0))) := ⟨by rw [← hz1]; exact blk_new _ _⟩
  have HB1 : Aside0 (Below w.heap.size w z1) := ⟨by rw [← hz1]; exact below_alloc (Below.refl _ _) _⟩
  obtain ⟨gp, hgp⟩ : ∃ gp, w.heap.size = gp := ⟨_, rfl⟩
  have hgpB : w.heap.size ≤ gp := by omega
  rw [hz1]
  rw [hgp] at HG1 ⊢
  clear hz1 hgp
  refine (H1.out _).mono ?_
  rintro e w2 ⟨rfl, hb⟩
  have HG2 := Aside0.mk (blk_below HG1.out hb)
  have HB2 := Aside0.mk (below_step HB1.out hb)
  clear hb
  go_upto_region 2 with (fail)
  rw [hT.out]
  have hcz0 := (blk_cell HG2.out 0).trans rfl
  have hcz1 := (blk_cell HG2.out 1).trans rfl
  have hfz0 := blk_frozen HG2.out 0
  have hfz1 := blk_frozen HG2.out 1
  go_wp2
  refine bodyPost_ret (results_ctt rfl _ _ gp 70 #[.string ⟨#[]⟩, .string ⟨#[]⟩] (0, 0) _ rfl (by exact blk_put (cs := #[.string ⟨#[]⟩, .string ⟨#[]⟩]) (blk_put (cs := #[.string ⟨#[]⟩, .string ⟨#[]⟩]) HG2.out 0 _ rfl) 1 _ rfl) Try.underlying70 rfl (by kernel_rfl)) rfl ?_
  exact ⟨rfl, (HB2.out.setCell hgpB _).setCell hgpB _⟩
set_option maxHeartbeats 4000000 in
set_option maxRecDepth 100000 in
theorem param_b (L T K M U N R K2 M2 V2 : ByteArray) (a c n i c2 n2 : Nat) (b b2 : Int) (w : World) (hT : Hid (L.extract a L.size = T)) (ha : (a : Int) ≤ (L.size : Int)) (H1 : Aside0 (Nums 55 L a))
    (hz : ((T.size : Int) == 0) = false) (h0 : (0 : Int) < (T.size : Int)) (hx : ∀ h : 0 < T.size, ((T[0]'h).toNat : Int) = b) (hb : (b != 59) = true) : Calls Try.prog 97 #[.string L] w (PPost w ⟨#[]⟩ ⟨#[]⟩ ⟨#[]⟩ false) := by
  have hu70 := Try.underlying70
  go_enter Try.func97, Try.ntmps97
  go_wp2_with fail
  obtain ⟨z1, hz1⟩ : ∃ z1, w.alloc (.cells #[.string ⟨#[]⟩, .string ⟨#[]⟩] 70 (0, 0)) = z1 := ⟨_, rfl⟩
  have HG1 : Aside0 (z1.heap[w.heap.size]? = some (.cells #[.string ⟨#[]⟩, .string ⟨#[]⟩] 70 (0, 0))) := ⟨by rw [← hz1]; exact blk_new _ _⟩
  have HB1 : Aside0 (Below w.heap.size w z1) := ⟨by rw [← hz1]; exact below_alloc (Below.refl _ _) _⟩
  obtain ⟨gp, hgp⟩ : ∃ gp, w.heap.size = gp := ⟨_, rfl⟩
  have hgpB : w.heap.size ≤ gp := by omega
  rw [hz1]
  rw [hgp] at HG1 ⊢
  clear hz1 hgp
  refine (H1.out _).mono ?_
  rintro e w2 ⟨rfl, hb⟩
  have HG2 := Aside0.mk (blk_below HG1.out hb)
  have HB2 := Aside0.mk (below_step HB1.out hb)
  clear hb
  go_upto_region 2 with (fail)
  rw [hT.out]
  have hcz0 := (blk_cell HG2.out 0).trans rfl
  have hcz1 := (blk_cell HG2.out 1).trans rfl
  have hfz0 := blk_frozen HG2.out 0
  have hfz1 := blk_frozen HG2.out 1
  go_wp2
  refine bodyPost_ret (results_ctt rfl _ _ gp 70 #[.string ⟨#[]⟩, .string ⟨#[]⟩] (0, 0) _ rfl (by exact blk_put (cs := #[.string ⟨#[]⟩, .string ⟨#[]⟩]) (blk_put (cs := #[.string ⟨#[]⟩, .string ⟨#[]⟩]) HG2.out 0 _ rfl) 1 _ rfl) Try.underlying70 rfl (by kernel_rfl)) rfl ?_
  exact ⟨rfl, (HB2.out.setCell hgpB _).setCell hgpB _⟩
set_option maxHeartbeats 4000000 in
set_option maxRecDepth 100000 in
theorem param_c (L T K M U N R K2 M2 V2 : ByteArray) (a c n i c2 n2 : Nat) (b b2 : Int) (w : World) (hT : Hid (L.extract a L.size = T)) (ha : (a : Int) ≤ (L.size : Int)) (H1 : Aside0 (Nums 55 L a))
    (hz : ((T.size : Int) == 0) = false) (h0 : (0 : Int) < (T.size : Int)) (hx : ∀ h : 0 < T.size, ((T[0]'h).toNat : Int) = b) (hb : (b != 59) = false) (h1 : (1 : Int) ≤ (T.size : Int)) (hK : Hid (T.extract 1 T.size = K)) (H2 : Aside0 (Nums 55 K c)) (hc : (c : Int) ≤ (K.size : Int)) (hM : Hid (K.extract c K.size = M)) (H3 : Aside0 (Nums 57 M n)) (hn : ((n : Int) == 0) = true) : Calls Try.prog 97 #[.string L] w (PPost w ⟨#[]⟩ ⟨#[]⟩ ⟨#[]⟩ false) := by
  have hu70 := Try.underlying70
  go_enter Try.func97, Try.ntmps97
  go_wp2_with fail
  obtain ⟨z1, hz1⟩ : ∃ z1, w.alloc (.cells #[.string ⟨#[]⟩, .string ⟨#[]⟩] 70 (0, 0)) = z1 := ⟨_, rfl⟩
  have HG1 : Aside0 (z1.heap[w.heap.size]? = some (.cells #[.string ⟨#[]⟩, .string ⟨#[]⟩] 70 (0, 0))) := ⟨by rw [← hz1]; exact blk_new _ _⟩
  have HB1 : Aside0 (Below w.heap.size w z1) := ⟨by rw [← hz1]; exact below_alloc (Below.refl _ _) _⟩
  obtain ⟨gp, hgp⟩ : ∃ gp, w.heap.size = gp := ⟨_, rfl⟩
  have hgpB : w.heap.size ≤ gp := by omega
  rw [hz1]
  rw [hgp] at HG1 ⊢
  clear hz1 hgp
  refine (H1.out _).mono ?_
  rintro e w2 ⟨rfl, hb⟩
  have HG2 := Aside0.mk (blk_below HG1.out hb)
  have HB2 := Aside0.mk (below_step HB1.out hb)
  clear hb
  go_upto_region 2 with (fail)
  rw [hT.out]
  go_upto_region 5 with (fail)
  rw [hK.out]
  go_wp2_with fail
  refine (H2.out _).mono ?_
  rintro e w3 ⟨rfl, hb⟩
  have HG3 := Aside0.mk (blk_below HG2.out hb)
  have HB3 := Aside0.mk (below_step HB2.out hb)
  clear hb
  go_upto_region 6 with (fail)
  rw [hM.out]
  go_wp2_with fail
  refine (H3.out _).mono ?_
  rintro e w4 ⟨rfl, hb⟩
  have HG4 := Aside0.mk (blk_below HG3.out hb)
  have HB4 := Aside0.mk (below_step HB3.out hb)
  clear hb
  have hcz0 := (blk_cell HG4.out 0).trans rfl
  have hcz1 := (blk_cell HG4.out 1).trans rfl
  have hfz0 := blk_frozen HG4.out 0
  have hfz1 := blk_frozen HG4.out 1
  go_wp2
  refine bodyPost_ret (results_ctt rfl _ _ gp 70 #[.string ⟨#[]⟩, .string ⟨#[]⟩] (0, 0) _ rfl (by exact blk_put (cs := #[.string ⟨#[]⟩, .string ⟨#[]⟩]) (blk_put (cs := #[.string ⟨#[]⟩, .string ⟨#[]⟩]) HG4.out 0 _ rfl) 1 _ rfl) Try.underlying70 rfl (by kernel_rfl)) rfl ?_
  exact ⟨rfl, (HB4.out.setCell hgpB _).setCell hgpB _⟩
set_option maxHeartbeats 4000000 in
set_option maxRecDepth 100000 in
theorem param_d1 (L T K M U N R K2 M2 V2 : ByteArray) (a c n i c2 n2 : Nat) (b b2 : Int) (w : World) (hT : Hid (L.extract a L.size = T)) (ha : (a : Int) ≤ (L.size : Int)) (H1 : Aside0 (Nums 55 L a))
    (hz : ((T.size : Int) == 0) = false) (h0 : (0 : Int) < (T.size : Int)) (hx : ∀ h : 0 < T.size, ((T[0]'h).toNat : Int) = b) (hb : (b != 59) = false) (h1 : (1 : Int) ≤ (T.size : Int)) (hK : Hid (T.extract 1 T.size = K)) (H2 : Aside0 (Nums 55 K c)) (hc : (c : Int) ≤ (K.size : Int)) (hM : Hid (K.extract c K.size = M)) (H3 : Aside0 (Nums 57 M n)) (hn : ((n : Int) == 0) = false) (hnM : (n : Int) ≤ (M.size : Int)) (hU : Hid (M.extract 0 n = U)) (H4 : Aside0 (∀ w, Calls Try.prog 24 #[.string U] w fun e w' => e = .returned (.string N) ∧ Below w.heap.size w w')) (hR : Hid (M.extract n M.size = R)) (H5 : Aside0 (Nums 55 R i)) (hi : ((i : Int) == (R.size : Int)) = true) : Calls Try.prog 97 #[.string L] w (PPost w N ⟨#[]⟩ R true) := by
  have hu70 := Try.underlying70
  go_enter Try.func97, Try.ntmps97
  go_wp2_with fail
  obtain ⟨z1, hz1⟩ : ∃ z1, w.alloc (.cells #[.string ⟨#[]⟩, .string ⟨#[]⟩] 70 (0, 0)) = z1 := ⟨_, rfl⟩
  have HG1 : Aside0 (z1.heap[w.heap.size]? = some (.cells #[.string ⟨#[]⟩, .string ⟨#[]⟩] 70 (0, 0))) := ⟨by rw [← hz1]; exact blk_new _ _⟩
  have HB1 : Aside0 (Below w.heap.size w z1) := ⟨by rw [← hz1]; exact below_alloc (Below.refl _ _) _⟩
  obtain ⟨gp, hgp⟩ : ∃ gp, w.heap.size = gp := ⟨_, rfl⟩
  have hgpB : w.heap.size ≤ gp := by omega
  rw [hz1]
  rw [hgp] at HG1 ⊢
  clear hz1 hgp
  refine (H1.out _).mono ?_
  rintro e w2 ⟨rfl, hb⟩
  have HG2 := Aside0.mk (blk_below HG1.out hb)
  have HB2 := Aside0.mk (below_step HB1.out hb)
  clear hb
  go_upto_region 2 with (fail)
  rw [hT.out]
  go_upto_region 5 with (fail)
  rw [hK.out]
  go_wp2_with fail
  refine (H2.out _).mono ?_
  rintro e w3 ⟨rfl, hb⟩
  have HG3 := Aside0.mk (blk_below HG2.out hb)
  have HB3 := Aside0.mk (below_step HB2.out hb)
  clear hb
  go_upto_region 6 with (fail)
  rw [hM.out]
  go_wp2_with fail
  refine (H3.out _).mono ?_
  rintro e w4 ⟨rfl, hb⟩
  have HG4 := Aside0.mk (blk_below HG3.out hb)
  have HB4 := Aside0.mk (below_step HB3.out hb)
  clear hb
  go_wp2_with fail
  rw [hU.out]
  refine (H4.out _).mono ?_
  rintro e w5 ⟨rfl, hb⟩
  have HG5 := Aside0.mk (blk_below HG4.out hb)
  have HB5 := Aside0.mk (below_step HB4.out hb)
  clear hb
  go_upto_region 10 with (fail)
  obtain ⟨gq, hgq⟩ : ∃ gq, w5.heap.size = gq := ⟨_, rfl⟩
  have hgqB : w.heap.size ≤ gq := by rw [← hgq]; exact HB5.out.size
  have hgne : gp ≠ gq := by have := blk_lt HG5.out; omega
  obtain ⟨z6, hz6⟩ : ∃ z6, w5.alloc (.cells #[.string N, .string ⟨#[]⟩] 70 (0, 0)) = z6 := ⟨_, rfl⟩
  have HG6 : Aside0 (z6.heap[gp]? = some (.cells #[.string ⟨#[]⟩, .string ⟨#[]⟩] 70 (0, 0))) := ⟨by rw [← hz6]; exact blk_below HG5.out (below_alloc (Below.refl _ _) _)⟩
  have HQ6 : Aside0 (z6.heap[gq]? = some (.cells #[.string N, .string ⟨#[]⟩] 70 (0, 0))) := ⟨by rw [← hz6, ← hgq]; exact blk_new _ _⟩
  have HB6 : Aside0 (Below w.heap.size w z6) := ⟨by rw [← hz6]; exact below_step HB5.out (below_alloc (Below.refl _ _) _)⟩
  rw [hgq, hz6]
  clear hgq hz6
  go_upto_region 11 with (fail)
  rw [hR.out]
  go_wp2_with fail
  refine (H5.out _).mono ?_
  rintro e w7 ⟨rfl, hb⟩
  have HG7 := Aside0.mk (blk_below HG6.out hb)
  have HQ7 := Aside0.mk (blk_below HQ6.out hb)
  have HB7 := Aside0.mk (below_step HB6.out hb)
  clear hb
  have hcq0 := (blk_cell HQ7.out 0).trans rfl
  have hcq1 := (blk_cell HQ7.out 1).trans rfl
  have hcz0 := (blk_cell HG7.out 0).trans rfl
  have hcz1 := (blk_cell HG7.out 1).trans rfl
  have hfz0 := blk_frozen HG7.out 0
  have hfz1 := blk_frozen HG7.out 1
  go_wp2
  refine bodyPost_ret (results_ctt rfl _ _ gp 70 #[.string N, .string ⟨#[]⟩] (0, 0) _ rfl (by exact blk_put (cs := #[.string N, .string ⟨#[]⟩]) (blk_put (cs := #[.string ⟨#[]⟩, .string ⟨#[]⟩]) HG7.out 0 _ rfl) 1 _ rfl) Try.underlying70 rfl (by kernel_rfl)) rfl ?_
  exact ⟨rfl, (HB7.out.setCell hgpB _).setCell hgpB _⟩
set_option maxHeartbeats 4000000 in
set_option maxRecDepth 100000 in
theorem param_d2 (L T K M U N R K2 M2 V2 : ByteArray) (a c n i c2 n2 : Nat) (b b2 : Int) (w : World) (hT : Hid (L.extract a L.size = T)) (ha : (a : Int) ≤ (L.size : Int)) (H1 : Aside0 (Nums 55 L a))
    (hz : ((T.size : Int) == 0) = false) (h0 : (0 : Int) < (T.size : Int)) (hx : ∀ h : 0 < T.size, ((T[0]'h).toNat : Int) = b) (hb : (b != 59) = false) (h1 : (1 : Int) ≤ (T.size : Int)) (hK : Hid (T.extract 1 T.size = K)) (H2 : Aside0 (Nums 55 K c)) (hc : (c : Int) ≤ (K.size : Int)) (hM : Hid (K.extract c K.size = M)) (H3 : Aside0 (Nums 57 M n)) (hn : ((n : Int) == 0) = false) (hnM : (n : Int) ≤ (M.size : Int)) (hU : Hid (M.extract 0 n = U)) (H4 : Aside0 (∀ w, Calls Try.prog 24 #[.string U] w fun e w' => e = .returned (.string N) ∧ Below w.heap.size w w')) (hR : Hid (M.extract n M.size = R)) (H5 : Aside0 (Nums 55 R i)) (hi : ((i : Int) == (R.size : Int)) = false) (hi0 : (i : Int) < (R.size : Int)) (hxi : ∀ h : i < R.size, ((R[i]'h).toNat : Int) = b2) (hb2 : (b2 != 61) = true) : Calls Try.prog 97 #[.string L] w (PPost w N ⟨#[]⟩ R true) := by
  have hu70 := Try.underlying70
  go_enter Try.func97, Try.ntmps97
  go_wp2_with fail
  obtain ⟨z1, hz1⟩ : ∃ z1, w.alloc (.cells #[.string ⟨#[]⟩, .string ⟨#[]⟩] 70 (0, 0)) = z1 := ⟨_, rfl⟩
  have HG1 : Aside0 (z1.heap[w.heap.size]? = some (.cells #[.string ⟨#[]⟩, .string ⟨#[]⟩] 70 (0, 0))) := ⟨by rw [← hz1]; exact blk_new _ _⟩
  have HB1 : Aside0 (Below w.heap.size w z1) := ⟨by rw [← hz1]; exact below_alloc (Below.refl _ _) _⟩
  obtain ⟨gp, hgp⟩ : ∃ gp, w.heap.size = gp := ⟨_, rfl⟩
  have hgpB : w.heap.size ≤ gp := by omega
  rw [hz1]
  rw [hgp] at HG1 ⊢
  clear hz1 hgp
  refine (H1.out _).mono ?_
  rintro e w2 ⟨rfl, hb⟩
  have HG2 := Aside0.mk (blk_below HG1.out hb)
  have HB2 := Aside0.mk (below_step HB1.out hb)
  clear hb
  go_upto_region 2 with (fail)
  rw [hT.out]
  go_upto_region 5 with (fail)
  rw [hK.out]
  go_wp2_with fail
  refine (H2.out _).mono ?_
  rintro e w3 ⟨rfl, hb⟩
  have HG3 := Aside0.mk (blk_below HG2.out hb)
  have HB3 := Aside0.mk (below_step HB2.out hb)
  clear hb
  go_upto_region 6 with (fail)
  rw [hM.out]
  go_wp2_with fail
  refine (H3.out _).mono ?_
  rintro e w4 ⟨rfl, hb⟩
  have HG4 := Aside0.mk (blk_below HG3.out hb)
  have HB4 := Aside0.mk (below_step HB3.out hb)
  clear hb
  go_wp2_with fail
  rw [hU.out]
  refine (H4.out _).mono ?_
  rintro e w5 ⟨rfl, hb⟩
  have HG5 := Aside0.mk (blk_below HG4.out hb)
  have HB5 := Aside0.mk (below_step HB4.out hb)
  clear hb
  go_upto_region 10 with (fail)
  obtain ⟨gq, hgq⟩ : ∃ gq, w5.heap.size = gq := ⟨_, rfl⟩
  have hgqB : w.heap.size ≤ gq := by rw [← hgq]; exact HB5.out.size
  have hgne : gp ≠ gq := by have := blk_lt HG5.out; omega
  obtain ⟨z6, hz6⟩ : ∃ z6, w5.alloc (.cells #[.string N, .string ⟨#[]⟩] 70 (0, 0)) = z6 := ⟨_, rfl⟩
  have HG6 : Aside0 (z6.heap[gp]? = some (.cells #[.string ⟨#[]⟩, .string ⟨#[]⟩] 70 (0, 0))) := ⟨by rw [← hz6]; exact blk_below HG5.out (below_alloc (Below.refl _ _) _)⟩
  have HQ6 : Aside0 (z6.heap[gq]? = some (.cells #[.string N, .string ⟨#[]⟩] 70 (0, 0))) := ⟨by rw [← hz6, ← hgq]; exact blk_new _ _⟩
  have HB6 : Aside0 (Below w.heap.size w z6) := ⟨by rw [← hz6]; exact below_step HB5.out (below_alloc (Below.refl _ _) _)⟩
  rw [hgq, hz6]
  clear hgq hz6
  go_upto_region 11 with (fail)
  rw [hR.out]
  go_wp2_with fail
  refine (H5.out _).mono ?_
  rintro e w7 ⟨rfl, hb⟩
  have HG7 := Aside0.mk (blk_below HG6.out hb)
  have HQ7 := Aside0.mk (blk_below HQ6.out hb)
  have HB7 := Aside0.mk (below_step HB6.out hb)
  clear hb
  have hcq0 := (blk_cell HQ7.out 0).trans rfl
  have hcq1 := (blk_cell HQ7.out 1).trans rfl
  have hcz0 := (blk_cell HG7.out 0).trans rfl
  have hcz1 := (blk_cell HG7.out 1).trans rfl
  have hfz0 := blk_frozen HG7.out 0
  have hfz1 := blk_frozen HG7.out 1
  go_wp2
  refine bodyPost_ret (results_ctt rfl _ _ gp 70 #[.string N, .string ⟨#[]⟩] (0, 0) _ rfl (by exact blk_put (cs := #[.string N, .string ⟨#[]⟩]) (blk_put (cs := #[.string ⟨#[]⟩, .string ⟨#[]⟩]) HG7.out 0 _ rfl) 1 _ rfl) Try.underlying70 rfl (by kernel_rfl)) rfl ?_
  exact ⟨rfl, (HB7.out.setCell hgpB _).setCell hgpB _⟩
def param_T : Bool × List (List Nat × List Nat) := (true, [([], []), ([], []), ([], []), ([1, 2], [1, 2]), ([], []), ([4], [4]), ([0, 0], [0]), ([3, 6, 0, 1, 2, 3, 6], [3]), ([5, 7, 0, 1, 2, 3, 4, 5, 6, 7], [5])])
def param_B : List Nat := [0, 0, 0, 6, 0, 16, 1, 79, 255]
theorem param_T_tab : rtab .any (opsOf Try.f97 22) = param_T := by kernel_rfl
theorem param_T_bits : waitsOk param_T.2 param_B = true := by kernel_rfl
set_option maxHeartbeats 4000000 in
set_option maxRecDepth 100000 in
theorem param_e (L T K M U N R K2 M2 V2 : ByteArray) (a c n i c2 n2 : Nat) (b b2 : Int) (w : World) (hT : Hid (L.extract a L.size = T)) (ha : (a : Int) ≤ (L.size : Int)) (H1 : Aside0 (Nums 55 L a))
    (hz : ((T.size : Int) == 0) = false) (h0 : (0 : Int) < (T.size : Int)) (hx : ∀ h : 0 < T.size, ((T[0]'h).toNat : Int) = b) (hb : (b != 59) = false) (h1 : (1 : Int) ≤ (T.size : Int)) (hK : Hid (T.extract 1 T.size = K)) (H2 : Aside0 (Nums 55 K c)) (hc : (c : Int) ≤ (K.size : Int)) (hM : Hid (K.extract c K.size = M)) (H3 : Aside0 (Nums 57 M n)) (hn : ((n : Int) == 0) = false) (hnM : (n : Int) ≤ (M.size : Int)) (hU : Hid (M.extract 0 n = U)) (H4 : Aside0 (∀ w, Calls Try.prog 24 #[.string U] w fun e w' => e = .returned (.string N) ∧ Below w.heap.size w w')) (hR : Hid (M.extract n M.size = R)) (H5 : Aside0 (Nums 55 R i)) (hi : ((i : Int) == (R.size : Int)) = false) (hi0 : (i : Int) < (R.size : Int)) (hxi : ∀ h : i < R.size, ((R[i]'h).toNat : Int) = b2) (hb2 : (b2 != 61) = false) (hi1 : (i : Int) + 1 ≤ (R.size : Int)) (hi2 : (i : Int) + 1 ≤ 9223372036854775807) (hK2 : Hid (R.extract (i + 1) R.size = K2)) (H6 : Aside0 (Nums 55 K2 c2)) (hc2 : (c2 : Int) ≤ (K2.size : Int)) (hM2 : Hid (K2.extract c2 K2.size = M2)) (H7 : Aside0 (Nums 57 M2 n2)) (hn2 : (n2 : Int) ≤ (M2.size : Int)) (hV2 : Hid (M2.extract 0 n2 = V2))(hm : ((n2 : Int) == 0) = false) (d : Bool) (hpd : decide (0 < n2) = d) (S : ByteArray) (hS : Hid (M2.extract n2 M2.size = S)) : Calls Try.prog 97 #[.string L] w (PPost w N V2 S d) := by
  have hu70 := Try.underlying70
  go_enter Try.func97, Try.ntmps97
  go_wp2_with fail
  obtain ⟨z1, hz1⟩ : ∃ z1, w.alloc (.cells #[.string ⟨#[]⟩, .string ⟨#[]⟩] 70 (0, 0)) = z1 := ⟨_, rfl⟩
  have HG1 : Aside0 (z1.heap[w.heap.size]? = some (.cells #[.string ⟨#[]⟩, .string ⟨#[]⟩] 70 (0, 0))) := ⟨by rw [← hz1]; exact blk_new _ _⟩
  have HB1 : Aside0 (Below w.heap.size w z1) := ⟨by rw [← hz1]; exact below_alloc (Below.refl _ _) _⟩
  obtain ⟨gp, hgp⟩ : ∃ gp, w.heap.size = gp := ⟨_, rfl⟩
  have hgpB : w.heap.size ≤ gp := by omega
  rw [hz1]
  rw [hgp] at HG1 ⊢
  clear hz1 hgp
  refine (H1.out _).mono ?_
  rintro e w2 ⟨rfl, hb⟩
  have HG2 := Aside0.mk (blk_below HG1.out hb)
  have HB2 := Aside0.mk (below_step HB1.out hb)
  clear hb
  go_upto_region 2 with (fail)
  rw [hT.out]
  go_upto_region 5 with (fail)
  rw [hK.out]
  go_wp2_with fail
  refine (H2.out _).mono ?_
  rintro e w3 ⟨rfl, hb⟩
  have HG3 := Aside0.mk (blk_below HG2.out hb)
  have HB3 := Aside0.mk (below_step HB2.out hb)
  clear hb
  go_upto_region 6 with (fail)
  rw [hM.out]
  go_wp2_with fail
  refine (H3.out _).mono ?_
  rintro e w4 ⟨rfl, hb⟩
  have HG4 := Aside0.mk (blk_below HG3.out hb)
  have HB4 := Aside0.mk (below_step HB3.out hb)
  clear hb
  go_wp2_with fail
  rw [hU.out]
  refine (H4.out _).mono ?_
  rintro e w5 ⟨rfl, hb⟩
  have HG5 := Aside0.mk (blk_below HG4.out hb)
  have HB5 := Aside0.mk (below_step HB4.out hb)
  clear hb
  go_upto_region 10 with (fail)
  obtain ⟨gq, hgq⟩ : ∃ gq, w5.heap.size = gq := ⟨_, rfl⟩
  have hgqB : w.heap.size ≤ gq := by rw [← hgq]; exact HB5.out.size
  have hgne : gp ≠ gq := by have := blk_lt HG5.out; omega
  obtain ⟨z6, hz6⟩ : ∃ z6, w5.alloc (.cells #[.string N, .string ⟨#[]⟩] 70 (0, 0)) = z6 := ⟨_, rfl⟩
  have HG6 : Aside0 (z6.heap[gp]? = some (.cells #[.string ⟨#[]⟩, .string ⟨#[]⟩] 70 (0, 0))) := ⟨by rw [← hz6]; exact blk_below HG5.out (below_alloc (Below.refl _ _) _)⟩
  have HQ6 : Aside0 (z6.heap[gq]? = some (.cells #[.string N, .string ⟨#[]⟩] 70 (0, 0))) := ⟨by rw [← hz6, ← hgq]; exact blk_new _ _⟩
  have HB6 : Aside0 (Below w.heap.size w z6) := ⟨by rw [← hz6]; exact below_step HB5.out (below_alloc (Below.refl _ _) _)⟩
  rw [hgq, hz6]
  clear hgq hz6
  go_upto_region 11 with (fail)
  rw [hR.out]
  go_wp2_with fail
  refine (H5.out _).mono ?_
  rintro e w7 ⟨rfl, hb⟩
  have HG7 := Aside0.mk (blk_below HG6.out hb)
  have HQ7 := Aside0.mk (blk_below HQ6.out hb)
  have HB7 := Aside0.mk (below_step HB6.out hb)
  clear hb
  go_upto_region 15 with (fail)
  rw [hK2.out]
  go_wp2_with fail
  refine (H6.out _).mono ?_
  rintro e w8 ⟨rfl, hb⟩
  have HG8 := Aside0.mk (blk_below HG7.out hb)
  have HQ8 := Aside0.mk (blk_below HQ7.out hb)
  have HB8 := Aside0.mk (below_step HB7.out hb)
  clear hb
  go_upto_region 16 with (fail)
  rw [hM2.out]
  go_wp2_with fail
  refine (H7.out _).mono ?_
  rintro e w9 ⟨rfl, hb⟩
  have HG9 := Aside0.mk (blk_below HG8.out hb)
  have HQ9 := Aside0.mk (blk_below HQ8.out hb)
  have HB9 := Aside0.mk (below_step HB8.out hb)
  clear hb
  have hcq1 := (blk_cell HQ9.out 1).trans rfl
  have hfq1 := blk_frozen HQ9.out 1
  go_upto_region 18 with (fail)
  rw [hV2.out]
  obtain ⟨za, hza⟩ : ∃ za, w9.setCell ⟨gq, 1, none⟩ (.string V2) = za := ⟨_, rfl⟩
  have HGa : Aside0 (za.heap[gp]? = some (.cells #[.string ⟨#[]⟩, .string ⟨#[]⟩] 70 (0, 0))) := ⟨by rw [← hza]; exact blk_far HG9.out hgne _⟩
  have HQa : Aside0 (za.heap[gq]? = some (.cells #[.string N, .string V2] 70 (0, 0))) := ⟨by rw [← hza]; exact blk_put HQ9.out 1 _ rfl⟩
  have HBa : Aside0 (Below w.heap.size w za) := ⟨by rw [← hza]; exact HB9.out.setCell hgqB _⟩
  rw [hza]
  clear hza hcq1 hfq1
  go_upto_region 22 with (fail)
  try rw [drewN_self za]
  have HGb := Aside0.mk (blk_drew HGa.out)
  have HQb := Aside0.mk (blk_drew HQa.out)
  have HBb := Aside0.mk (below_drew1 HBa.out)
  refine start_ (n := 9) (S := fun w' => w'.cell? ⟨gq, 0, none⟩ = some (.string N) ∧ w'.cell? ⟨gq, 1, none⟩ = some (.string V2)) (ds := []) #[false, false, false, false, false, false, false, false, false] (by kernel_rfl) rfl rfl ⟨(blk_cell HQb.out 0).trans rfl, (blk_cell HQb.out 1).trans rfl⟩ (fun hHeld => ?_); refine with_tabW param_T_tab param_T_bits (fun HT_ HW_ => ?_)
  obtain ⟨zb, hzb⟩ : ∃ zb, za.drew = zb := ⟨_, rfl⟩
  rw [hzb] at HGb HQb HBb hHeld ⊢
  clear hzb
  refine pure_ (i := 1) (N := some 81) (v := ?_) (a' := ?_) #[false, true, false, false, false, false, false, false, false] rfl rfl (any_of HT_.out (by kernel_rfl)) (fun _ _ _ h => h) (Or.inl ⟨by rfl, ?_⟩) ?_ ?_
  rotate_left
  · intro w'
    go_simp
    with_reducible rfl
  rotate_left
  · simp only [Act.put, List.setIfInBounds_toArray, List.set_cons_zero, List.set_cons_succ, i64_w, i32_w]
    rfl
  refine pure_ (i := 2) (N := some 82) (v := ?_) (a' := ?_) #[false, true, true, false, false, false, false, false, false] rfl rfl (any_of HT_.out (by kernel_rfl)) (fun _ _ _ h => h) (Or.inl ⟨by rfl, ?_⟩) ?_ ?_
  rotate_left
  · intro w'
    go_simp
    with_reducible rfl
  rotate_left
  · simp only [Act.put, List.setIfInBounds_toArray, List.set_cons_zero, List.set_cons_succ, i64_w, i32_w]
    rfl
  refine pure_ (i := 3) (N := some 83) (v := ?_) (a' := ?_) #[false, true, true, true, false, false, false, false, false] rfl rfl (any_of HT_.out (by kernel_rfl)) (fun _ _ _ h => h) (Or.inl ⟨by rfl, ?_⟩) ?_ ?_
  rotate_left
  · intro w'
    go_simp
    with_reducible rfl
  rotate_left
  · simp only [Act.put, List.setIfInBounds_toArray, List.set_cons_zero, List.set_cons_succ, i64_w, i32_w]
    rfl
  refine pure_ (i := 4) (N := some 84) (v := ?_) (a' := ?_) #[false, true, true, true, true, false, false, false, false] rfl rfl (any_of HT_.out (by kernel_rfl)) (fun _ _ _ h => h) (Or.inl ⟨by rfl, ?_⟩) ?_ ?_
  rotate_left
  · intro w'
    go_simp
    with_reducible rfl
  rotate_left
  · simp only [Act.put, List.setIfInBounds_toArray, List.set_cons_zero, List.set_cons_succ, i64_w, i32_w]
    rfl
  refine pure_ (i := 5) (N := some 85) (v := ?_) (a' := ?_) #[false, true, true, true, true, true, false, false, false] rfl rfl (any_of HT_.out (by kernel_rfl)) (fun _ _ _ h => h) (Or.inl ⟨by rfl, ?_⟩) ?_ ?_
  rotate_left
  · intro w'
    go_simp
    with_reducible rfl
  rotate_left
  · simp only [Act.put, List.setIfInBounds_toArray, List.set_cons_zero, List.set_cons_succ, i64_w, i32_w]
    rfl
  refine take_ (i := 0) (N := some 80) (v := ?_) (a' := ?_) #[true, true, true, true, true, true, false, false, false] rfl rfl (take_ofW HT_.out HW_.out (by kernel_rfl)) (fun _ _ _ h => h) (Or.inl ⟨by rfl, ?_⟩) hHeld ?_ ?_
  rotate_left
  · rintro w' ⟨s0, s1⟩
    go_simp
    with_reducible rfl
  rotate_left
  · simp only [Act.put, List.setIfInBounds_toArray, List.set_cons_zero, List.set_cons_succ, i64_w, i32_w]
    rfl
  refine one_ (i := 6) (N := none) #[true, true, true, true, true, true, true, false, false] rfl rfl (one_of HT_.out (by kernel_rfl)) (by decide) (fun K hK => ?_)
  have hs0 := (blk_cell HGb.out 0).trans rfl
  have hs1 := (blk_cell HGb.out 1).trans rfl
  have hfs0 := blk_frozen HGb.out 0
  have hfs1 := blk_frozen HGb.out 1
  have hne2 : gq ≠ gp := fun e => hgne e.symm
  refine skip_ (w1 := ?_) (by rfl) rfl ?_ ?_
  rotate_left
  · go_simp
    rfl
  refine hK.out _ _ ⟨((cell_far (p := ⟨gp, _, none⟩) hne2 _).trans (((cell_far (p := ⟨gp, _, none⟩) hne2 _).trans (hHeld.1)))), ((cell_far (p := ⟨gp, _, none⟩) hne2 _).trans (((cell_far (p := ⟨gp, _, none⟩) hne2 _).trans (hHeld.2))))⟩ (fun hHeld => ?_)
  clear hK K
  refine pure_ (i := 7) (N := some 3) (v := ?_) (a' := ?_) #[true, true, true, true, true, true, true, true, false] rfl rfl (any_of HT_.out (by kernel_rfl)) (fun _ _ _ h => h) (Or.inl ⟨by rfl, ?_⟩) ?_ ?_
  rotate_left
  · intro w'
    go_simp
    with_reducible rfl
  rotate_left
  · simp only [Act.put, List.setIfInBounds_toArray, List.set_cons_zero, List.set_cons_succ, i64_w, i32_w]
    rfl
  refine pure_ (i := 8) (N := some 4) (v := ?_) (a' := ?_) #[true, true, true, true, true, true, true, true, true] rfl rfl (any_of HT_.out (by kernel_rfl)) (fun _ _ _ h => h) (Or.inl ⟨by rfl, ?_⟩) ?_ ?_
  rotate_left
  · intro w'
    go_simp
    with_reducible rfl
  rotate_left
  · simp only [Act.put, List.setIfInBounds_toArray, List.set_cons_zero, List.set_cons_succ, i64_w, i32_w]
    rfl
  refine done_ (done_of HT_.out (by kernel_rfl)) ?_
  try go_wp2
  refine bodyPost_ret (results_ctt rfl _ _ gp 70 #[.string N, .string V2] (0, 0) _ rfl (by exact blk_put (cs := #[.string N, .string ⟨#[]⟩]) (blk_put (cs := #[.string ⟨#[]⟩, .string ⟨#[]⟩]) HGb.out 0 _ rfl) 1 _ rfl) Try.underlying70 rfl (by kernel_rfl)) rfl ?_
  exact ⟨by rw [← hS.out, ← hpd]; rfl, (HBb.out.setCell hgpB _).setCell hgpB _⟩
set_option maxHeartbeats 4000000 in
set_option maxRecDepth 100000 in
theorem param_f_ (L T K M U N R K2 M2 V2 : ByteArray) (a c n i c2 n2 : Nat) (b b2 : Int) (w : World) (hT : Hid (L.extract a L.size = T)) (ha : (a : Int) ≤ (L.size : Int)) (H1 : Aside0 (Nums 55 L a))
    (hz : ((T.size : Int) == 0) = false) (h0 : (0 : Int) < (T.size : Int)) (hx : ∀ h : 0 < T.size, ((T[0]'h).toNat : Int) = b) (hb : (b != 59) = false) (h1 : (1 : Int) ≤ (T.size : Int)) (hK : Hid (T.extract 1 T.size = K)) (H2 : Aside0 (Nums 55 K c)) (hc : (c : Int) ≤ (K.size : Int)) (hM : Hid (K.extract c K.size = M)) (H3 : Aside0 (Nums 57 M n)) (hn : ((n : Int) == 0) = false) (hnM : (n : Int) ≤ (M.size : Int)) (hU : Hid (M.extract 0 n = U)) (H4 : Aside0 (∀ w, Calls Try.prog 24 #[.string U] w fun e w' => e = .returned (.string N) ∧ Below w.heap.size w w')) (hR : Hid (M.extract n M.size = R)) (H5 : Aside0 (Nums 55 R i)) (hi : ((i : Int) == (R.size : Int)) = false) (hi0 : (i : Int) < (R.size : Int)) (hxi : ∀ h : i < R.size, ((R[i]'h).toNat : Int) = b2) (hb2 : (b2 != 61) = false) (hi1 : (i : Int) + 1 ≤ (R.size : Int)) (hi2 : (i : Int) + 1 ≤ 9223372036854775807) (hK2 : Hid (R.extract (i + 1) R.size = K2)) (H6 : Aside0 (Nums 55 K2 c2)) (hc2 : (c2 : Int) ≤ (K2.size : Int)) (hM2 : Hid (K2.extract c2 K2.size = M2)) (H7 : Aside0 (Nums 57 M2 n2)) (hn2 : (n2 : Int) ≤ (M2.size : Int)) (hV2 : Hid (M2.extract 0 n2 = V2))(hm : ((n2 : Int) == 0) = true) (X : ByteArray) (q : Nat) (H8 : Aside0 (∀ w, Calls Try.prog 60 #[.string M2] w fun e w' => e = .returned (.tuple #[.string X, .int .i64 (q : Int)]) ∧ Below w.heap.size w w')) (hq : (q : Int) ≤ (M2.size : Int)) (d : Bool) (hpd : decide (0 < q) = d) (S : ByteArray) (hS : Hid (M2.extract q M2.size = S)) : Calls Try.prog 97 #[.string L] w (PPost w N X S d) := by
  have hu70 := Try.underlying70
  go_enter Try.func97, Try.ntmps97
  go_wp2_with fail
  obtain ⟨z1, hz1⟩ : ∃ z1, w.alloc (.cells #[.string ⟨#[]⟩, .string ⟨#[]⟩] 70 (0, 0)) = z1 := ⟨_, rfl⟩
  have HG1 : Aside0 (z1.heap[w.heap.size]? = some (.cells #[.string ⟨#[]⟩, .string ⟨#[]⟩] 70 (0, 0))) := ⟨by rw [← hz1]; exact blk_new _ _⟩
  have HB1 : Aside0 (Below w.heap.size w z1) := ⟨by rw [← hz1]; exact below_alloc (Below.refl _ _) _⟩
  obtain ⟨gp, hgp⟩ : ∃ gp, w.heap.size = gp := ⟨_, rfl⟩
  have hgpB : w.heap.size ≤ gp := by omega
  rw [hz1]
  rw [hgp] at HG1 ⊢
  clear hz1 hgp
  refine (H1.out _).mono ?_
  rintro e w2 ⟨rfl, hb⟩
  have HG2 := Aside0.mk (blk_below HG1.out hb)
  have HB2 := Aside0.mk (below_step HB1.out hb)
  clear hb
  go_upto_region 2 with (fail)
  rw [hT.out]
  go_upto_region 5 with (fail)
  rw [hK.out]
  go_wp2_with fail
  refine (H2.out _).mono ?_
  rintro e w3 ⟨rfl, hb⟩
  have HG3 := Aside0.mk (blk_below HG2.out hb)
  have HB3 := Aside0.mk (below_step HB2.out hb)
  clear hb
  go_upto_region 6 with (fail)
  rw [hM.out]
  go_wp2_with fail
  refine (H3.out _).mono ?_
  rintro e w4 ⟨rfl, hb⟩
  have HG4 := Aside0.mk (blk_below HG3.out hb)
  have HB4 := Aside0.mk (below_step HB3.out hb)
  clear hb
  go_wp2_with fail
  rw [hU.out]
  refine (H4.out _).mono ?_
  rintro e w5 ⟨rfl, hb⟩
  have HG5 := Aside0.mk (blk_below HG4.out hb)
  have HB5 := Aside0.mk (below_step HB4.out hb)
  clear hb
  go_upto_region 10 with (fail)
  obtain ⟨gq, hgq⟩ : ∃ gq, w5.heap.size = gq := ⟨_, rfl⟩
  have hgqB : w.heap.size ≤ gq := by rw [← hgq]; exact HB5.out.size
  have hgne : gp ≠ gq := by have := blk_lt HG5.out; omega
  obtain ⟨z6, hz6⟩ : ∃ z6, w5.alloc (.cells #[.string N, .string ⟨#[]⟩] 70 (0, 0)) = z6 := ⟨_, rfl⟩
  have HG6 : Aside0 (z6.heap[gp]? = some (.cells #[.string ⟨#[]⟩, .string ⟨#[]⟩] 70 (0, 0))) := ⟨by rw [← hz6]; exact blk_below HG5.out (below_alloc (Below.refl _ _) _)⟩
  have HQ6 : Aside0 (z6.heap[gq]? = some (.cells #[.string N, .string ⟨#[]⟩] 70 (0, 0))) := ⟨by rw [← hz6, ← hgq]; exact blk_new _ _⟩
  have HB6 : Aside0 (Below w.heap.size w z6) := ⟨by rw [← hz6]; exact below_step HB5.out (below_alloc (Below.refl _ _) _)⟩
  rw [hgq, hz6]
  clear hgq hz6
  go_upto_region 11 with (fail)
  rw [hR.out]
  go_wp2_with fail
  refine (H5.out _).mono ?_
  rintro e w7 ⟨rfl, hb⟩
  have HG7 := Aside0.mk (blk_below HG6.out hb)
  have HQ7 := Aside0.mk (blk_below HQ6.out hb)
  have HB7 := Aside0.mk (below_step HB6.out hb)
  clear hb
  go_upto_region 15 with (fail)
  rw [hK2.out]
  go_wp2_with fail
  refine (H6.out _).mono ?_
  rintro e w8 ⟨rfl, hb⟩
  have HG8 := Aside0.mk (blk_below HG7.out hb)
  have HQ8 := Aside0.mk (blk_below HQ7.out hb)
  have HB8 := Aside0.mk (below_step HB7.out hb)
  clear hb
  go_upto_region 16 with (fail)
  rw [hM2.out]
  go_wp2_with fail
  refine (H7.out _).mono ?_
  rintro e w9 ⟨rfl, hb⟩
  have HG9 := Aside0.mk (blk_below HG8.out hb)
  have HQ9 := Aside0.mk (blk_below HQ8.out hb)
  have HB9 := Aside0.mk (below_step HB8.out hb)
  clear hb
  have hcq1 := (blk_cell HQ9.out 1).trans rfl
  have hfq1 := blk_frozen HQ9.out 1
  go_upto_region 18 with (fail)
  rw [hV2.out]
  obtain ⟨za, hza⟩ : ∃ za, w9.setCell ⟨gq, 1, none⟩ (.string V2) = za := ⟨_, rfl⟩
  have HGa : Aside0 (za.heap[gp]? = some (.cells #[.string ⟨#[]⟩, .string ⟨#[]⟩] 70 (0, 0))) := ⟨by rw [← hza]; exact blk_far HG9.out hgne _⟩
  have HQa : Aside0 (za.heap[gq]? = some (.cells #[.string N, .string V2] 70 (0, 0))) := ⟨by rw [← hza]; exact blk_put HQ9.out 1 _ rfl⟩
  have HBa : Aside0 (Below w.heap.size w za) := ⟨by rw [← hza]; exact HB9.out.setCell hgqB _⟩
  rw [hza]
  clear hza hcq1 hfq1
  go_wp2_with fail
  refine (H8.out _).mono ?_
  rintro e wc ⟨rfl, hb⟩
  have HGc := Aside0.mk (blk_below HGa.out hb)
  have HQc := Aside0.mk (blk_below HQa.out hb)
  have HBc := Aside0.mk (below_step HBa.out hb)
  clear hb HGa HQa HBa
  have hcq1 := (blk_cell HQc.out 1).trans rfl
  have hfq1 := blk_frozen HQc.out 1
  go_upto_region 22 with (fail)
  obtain ⟨za, hza⟩ : ∃ za, wc.setCell ⟨gq, 1, none⟩ (.string X) = za := ⟨_, rfl⟩
  have HGa : Aside0 (za.heap[gp]? = some (.cells #[.string ⟨#[]⟩, .string ⟨#[]⟩] 70 (0, 0))) := ⟨by rw [← hza]; exact blk_far HGc.out hgne _⟩
  have HQa : Aside0 (za.heap[gq]? = some (.cells #[.string N, .string X] 70 (0, 0))) := ⟨by rw [← hza]; exact blk_put HQc.out 1 _ rfl⟩
  have HBa : Aside0 (Below w.heap.size w za) := ⟨by rw [← hza]; exact HBc.out.setCell hgqB _⟩
  rw [hza]
  clear hza hcq1 hfq1
  try rw [drewN_self za]
  have HGb := Aside0.mk (blk_drew HGa.out)
  have HQb := Aside0.mk (blk_drew HQa.out)
  have HBb := Aside0.mk (below_drew1 HBa.out)
  refine start_ (n := 9) (S := fun w' => w'.cell? ⟨gq, 0, none⟩ = some (.string N) ∧ w'.cell? ⟨gq, 1, none⟩ = some (.string X)) (ds := []) #[false, false, false, false, false, false, false, false, false] (by kernel_rfl) rfl rfl ⟨(blk_cell HQb.out 0).trans rfl, (blk_cell HQb.out 1).trans rfl⟩ (fun hHeld => ?_); refine with_tabW param_T_tab param_T_bits (fun HT_ HW_ => ?_)
  obtain ⟨zb, hzb⟩ : ∃ zb, za.drew = zb := ⟨_, rfl⟩
  rw [hzb] at HGb HQb HBb hHeld ⊢
  clear hzb
  refine pure_ (i := 1) (N := some 81) (v := ?_) (a' := ?_) #[false, true, false, false, false, false, false, false, false] rfl rfl (any_of HT_.out (by kernel_rfl)) (fun _ _ _ h => h) (Or.inl ⟨by rfl, ?_⟩) ?_ ?_
  rotate_left
  · intro w'
    go_simp
    with_reducible rfl
  rotate_left
  · simp only [Act.put, List.setIfInBounds_toArray, List.set_cons_zero, List.set_cons_succ, i64_w, i32_w]
    rfl
  refine pure_ (i := 2) (N := some 82) (v := ?_) (a' := ?_) #[false, true, true, false, false, false, false, false, false] rfl rfl (any_of HT_.out (by kernel_rfl)) (fun _ _ _ h => h) (Or.inl ⟨by rfl, ?_⟩) ?_ ?_
  rotate_left
  · intro w'
    go_simp
    with_reducible rfl
  rotate_left
  · simp only [Act.put, List.setIfInBounds_toArray, List.set_cons_zero, List.set_cons_succ, i64_w, i32_w]
    rfl
  refine pure_ (i := 3) (N := some 83) (v := ?_) (a' := ?_) #[false, true, true, true, false, false, false, false, false] rfl rfl (any_of HT_.out (by kernel_rfl)) (fun _ _ _ h => h) (Or.inl ⟨by rfl, ?_⟩) ?_ ?_
  rotate_left
  · intro w'
    go_simp
    with_reducible rfl
  rotate_left
  · simp only [Act.put, List.setIfInBounds_toArray, List.set_cons_zero, List.set_cons_succ, i64_w, i32_w]
    rfl
  refine pure_ (i := 4) (N := some 84) (v := ?_) (a' := ?_) #[false, true, true, true, true, false, false, false, false] rfl rfl (any_of HT_.out (by kernel_rfl)) (fun _ _ _ h => h) (Or.inl ⟨by rfl, ?_⟩) ?_ ?_
  rotate_left
  · intro w'
    go_simp
    with_reducible rfl
  rotate_left
  · simp only [Act.put, List.setIfInBounds_toArray, List.set_cons_zero, List.set_cons_succ, i64_w, i32_w]
    rfl
  refine pure_ (i := 5) (N := some 85) (v := ?_) (a' := ?_) #[false, true, true, true, true, true, false, false, false] rfl rfl (any_of HT_.out (by kernel_rfl)) (fun _ _ _ h => h) (Or.inl ⟨by rfl, ?_⟩) ?_ ?_
  rotate_left
  · intro w'
    go_simp
    with_reducible rfl
  rotate_left
  · simp only [Act.put, List.setIfInBounds_toArray, List.set_cons_zero, List.set_cons_succ, i64_w, i32_w]
    rfl
  refine take_ (i := 0) (N := some 80) (v := ?_) (a' := ?_) #[true, true, true, true, true, true, false, false, false] rfl rfl (take_ofW HT_.out HW_.out (by kernel_rfl)) (fun _ _ _ h => h) (Or.inl ⟨by rfl, ?_⟩) hHeld ?_ ?_
  rotate_left
  · rintro w' ⟨s0, s1⟩
    go_simp
    with_reducible rfl
  rotate_left
  · simp only [Act.put, List.setIfInBounds_toArray, List.set_cons_zero, List.set_cons_succ, i64_w, i32_w]
    rfl
  refine one_ (i := 6) (N := none) #[true, true, true, true, true, true, true, false, false] rfl rfl (one_of HT_.out (by kernel_rfl)) (by decide) (fun K hK => ?_)
  have hs0 := (blk_cell HGb.out 0).trans rfl
  have hs1 := (blk_cell HGb.out 1).trans rfl
  have hfs0 := blk_frozen HGb.out 0
  have hfs1 := blk_frozen HGb.out 1
  have hne2 : gq ≠ gp := fun e => hgne e.symm
  refine skip_ (w1 := ?_) (by rfl) rfl ?_ ?_
  rotate_left
  · go_simp
    rfl
  refine hK.out _ _ ⟨((cell_far (p := ⟨gp, _, none⟩) hne2 _).trans (((cell_far (p := ⟨gp, _, none⟩) hne2 _).trans (hHeld.1)))), ((cell_far (p := ⟨gp, _, none⟩) hne2 _).trans (((cell_far (p := ⟨gp, _, none⟩) hne2 _).trans (hHeld.2))))⟩ (fun hHeld => ?_)
  clear hK K
  refine pure_ (i := 7) (N := some 3) (v := ?_) (a' := ?_) #[true, true, true, true, true, true, true, true, false] rfl rfl (any_of HT_.out (by kernel_rfl)) (fun _ _ _ h => h) (Or.inl ⟨by rfl, ?_⟩) ?_ ?_
  rotate_left
  · intro w'
    go_simp
    with_reducible rfl
  rotate_left
  · simp only [Act.put, List.setIfInBounds_toArray, List.set_cons_zero, List.set_cons_succ, i64_w, i32_w]
    rfl
  refine pure_ (i := 8) (N := some 4) (v := ?_) (a' := ?_) #[true, true, true, true, true, true, true, true, true] rfl rfl (any_of HT_.out (by kernel_rfl)) (fun _ _ _ h => h) (Or.inl ⟨by rfl, ?_⟩) ?_ ?_
  rotate_left
  · intro w'
    go_simp
    with_reducible rfl
  rotate_left
  · simp only [Act.put, List.setIfInBounds_toArray, List.set_cons_zero, List.set_cons_succ, i64_w, i32_w]
    rfl
  refine done_ (done_of HT_.out (by kernel_rfl)) ?_
  try go_wp2
  refine bodyPost_ret (results_ctt rfl _ _ gp 70 #[.string N, .string X] (0, 0) _ rfl (by exact blk_put (cs := #[.string N, .string ⟨#[]⟩]) (blk_put (cs := #[.string ⟨#[]⟩, .string ⟨#[]⟩]) HGb.out 0 _ rfl) 1 _ rfl) Try.underlying70 rfl (by kernel_rfl)) rfl ?_
  exact ⟨by rw [← hS.out, ← hpd]; rfl, (HBb.out.setCell hgpB _).setCell hgpB _⟩
theorem bt_gets (T : ByteArray) (j : Nat) : ∀ h : j < T.size, ((T[j]'h).toNat : Int) = bt T (j : Int) := fun h => bt_at T j h
theorem beqI_false {a b : Nat} (h : a ≠ b) : (((a : Nat) : Int) == ((b : Nat) : Int)) = false := beq_eq_false_iff_ne.mpr (fun e => h (Int.ofNat.inj e))
theorem param_any (L : ByteArray) (hs : L.size ≤ 140737488351232) (w : World) : Calls Try.prog 97 #[.string L] w (PPost w (paramP L).1 (paramP L).2.1 (paramP L).2.2.1 (paramP L).2.2.2) := by
  have hle := spn_le blI L
  have hsz : (aft L).size = L.size - spn blI L := by rw [aft, ofs_size _ _ hle]
  have hT : Hid (L.extract (spn blI L) L.size = aft L) := Lib.hid rfl
  have ha : ((spn blI L : Nat) : Int) ≤ (L.size : Int) := by omega
  have H1 : Aside0 (Nums 55 L (spn blI L)) := ⟨rskip_any L hs⟩
  unfold paramP
  by_cases h0 : (aft L).size = 0
  · rw [if_neg (fun h => by have := h.1; omega)]
    exact param_a L _ L L L L L L L L _ 0 0 0 0 0 0 0 w hT ha H1 (beq_iff_eq.mpr (by omega))
  · have hz : (((aft L).size : Int) == 0) = false := beqI_false h0
    have h00 : (0 : Int) < ((aft L).size : Int) := by omega
    have hx := bt_gets (aft L) 0
    by_cases c : bt (aft L) 0 = 59
    · rw [if_pos (show isAt (aft L) 59 from ⟨by omega, c⟩)]
      have hb : (bt (aft L) ((0 : Nat) : Int) != 59) = false := bne_eq_false_iff_eq.mpr c
      have h1 : (1 : Int) ≤ ((aft L).size : Int) := by omega
      obtain ⟨K, hK⟩ : ∃ K, ofs (aft L) 1 = K := ⟨_, rfl⟩
      have hKs : K.size ≤ L.size := by rw [← hK, ofs_size _ _ (by omega)]; omega
      have hKle := spn_le blI K
      have H2 : Aside0 (Nums 55 K (spn blI K)) := ⟨rskip_any K (by omega)⟩
      obtain ⟨M, hM⟩ : ∃ M, aft K = M := ⟨_, rfl⟩
      have hMs : M.size ≤ K.size := by rw [← hM]; exact aft_size K
      have hMle := spn_le tcI M
      have H3 : Aside0 (Nums 57 M (spn tcI M)) := ⟨rtoken_any M (by omega)⟩
      rw [hK, hM]
      have hK' : Hid ((aft L).extract 1 (aft L).size = K) := Lib.hid hK
      have hM' : Hid (K.extract (spn blI K) K.size = M) := Lib.hid hM
      have hKc : ((spn blI K : Nat) : Int) ≤ (K.size : Int) := by omega
      by_cases hn0 : spn tcI M = 0
      · rw [if_pos hn0]
        exact param_c L _ K M L L L L L L _ _ _ 0 0 0 _ 0 w hT ha H1 hz h00 hx hb h1 hK' H2 hKc hM' H3 (beq_iff_eq.mpr (by omega))
      · rw [if_neg hn0]
        have hn : (((spn tcI M : Nat) : Int) == 0) = false := beqI_false hn0
        have hnM : ((spn tcI M : Nat) : Int) ≤ (M.size : Int) := by omega
        have H4 : Aside0 (∀ w, Calls Try.prog 24 #[.string (upto M (spn tcI M))] w fun e w' => e = .returned (.string (lowS (upto M (spn tcI M)))) ∧ Below w.heap.size w w') := ⟨rlower_any _ (by rw [upto_size _ _ hMle]; omega)⟩
        obtain ⟨R, hR⟩ : ∃ R, ofs M (spn tcI M) = R := ⟨_, rfl⟩
        have hRs : R.size ≤ M.size := by rw [← hR, ofs_size _ _ hMle]; omega
        have hRle := spn_le blI R
        have haf : (aft R).size = R.size - spn blI R := by rw [aft, ofs_size _ _ hRle]
        have H5 : Aside0 (Nums 55 R (spn blI R)) := ⟨rskip_any R (by omega)⟩
        rw [hR]
        have hU' : Hid (M.extract 0 (spn tcI M) = upto M (spn tcI M)) := Lib.hid rfl
        have hR' : Hid (M.extract (spn tcI M) M.size = R) := Lib.hid hR
        by_cases ce : spn blI R = R.size
        · rw [if_neg (fun h => by have := h.1; omega)]
          exact param_d1 L _ K M _ _ R L L L _ _ _ _ 0 0 _ 0 w hT ha H1 hz h00 hx hb h1 hK' H2 hKc hM' H3 hn hnM hU' H4 hR' H5 (beq_iff_eq.mpr (by omega))
        · have hi : (((spn blI R : Nat) : Int) == (R.size : Int)) = false := beqI_false ce
          have hi0 : ((spn blI R : Nat) : Int) < (R.size : Int) := by omega
          have hxi := bt_gets R (spn blI R)
          have hbe : bt (aft R) 0 = bt R ((spn blI R : Nat) : Int) := bt_ofs R _ (by omega)
          by_cases c6 : bt R ((spn blI R : Nat) : Int) = 61
          · have hb2 : (bt R ((spn blI R : Nat) : Int) != 61) = false := bne_eq_false_iff_eq.mpr c6
            rw [if_pos (show isAt (aft R) 61 from ⟨by omega, hbe.trans c6⟩)]
            have e2 : ofs (aft R) 1 = ofs R (spn blI R + 1) := by rw [aft, ofs_ofs _ _ _ (by omega)]
            obtain ⟨K2, hK2⟩ : ∃ K2, ofs R (spn blI R + 1) = K2 := ⟨_, rfl⟩
            have hK2s : K2.size ≤ R.size := by rw [← hK2, ofs_size _ _ (by omega)]; omega
            rw [e2, hK2]
            have hK2le := spn_le blI K2
            have H6 : Aside0 (Nums 55 K2 (spn blI K2)) := ⟨rskip_any K2 (by omega)⟩
            obtain ⟨M2, hM2⟩ : ∃ M2, aft K2 = M2 := ⟨_, rfl⟩
            have hM2s : M2.size ≤ K2.size := by rw [← hM2]; exact aft_size K2
            have hM2le := spn_le tcI M2
            have H7 : Aside0 (Nums 57 M2 (spn tcI M2)) := ⟨rtoken_any M2 (by omega)⟩
            rw [hM2]
            have hK2' : Hid (R.extract (spn blI R + 1) R.size = K2) := Lib.hid hK2
            have hM2' : Hid (K2.extract (spn blI K2) K2.size = M2) := Lib.hid hM2
            have hV2' : Hid (M2.extract 0 (spn tcI M2) = upto M2 (spn tcI M2)) := Lib.hid rfl
            unfold valR
            by_cases hm0 : spn tcI M2 = 0
            · rw [if_pos hm0]
              have hq := qn_le2 M2
              exact param_f_ L _ K M _ _ R K2 M2 _ _ _ _ _ _ _ _ _ w hT ha H1 hz h00 hx hb h1 hK' H2 hKc hM' H3 hn hnM hU' H4 hR' H5 hi hi0 hxi hb2 (by omega) (by omega) hK2' H6 (by omega) hM2' H7 (by omega) hV2' (beq_iff_eq.mpr (by omega)) (qs M2) (qn M2) ⟨rquoted_any M2 (by omega)⟩ (by omega) _ rfl _ (Lib.hid rfl)
            · rw [if_neg hm0]
              exact param_e L _ K M _ _ R K2 M2 _ _ _ _ _ _ _ _ _ w hT ha H1 hz h00 hx hb h1 hK' H2 hKc hM' H3 hn hnM hU' H4 hR' H5 hi hi0 hxi hb2 (by omega) (by omega) hK2' H6 (by omega) hM2' H7 (by omega) hV2' (beqI_false hm0) true (decide_eq_true (by omega)) _ (Lib.hid rfl)
          · have hb2 : (bt R ((spn blI R : Nat) : Int) != 61) = true := bne_iff_ne.mpr c6
            rw [if_neg (fun h => c6 (hbe.symm.trans h.2))]
            exact param_d2 L _ K M _ _ R L L L _ _ _ _ 0 0 _ _ w hT ha H1 hz h00 hx hb h1 hK' H2 hKc hM' H3 hn hnM hU' H4 hR' H5 hi hi0 hxi hb2
    · rw [if_neg (fun h => c h.2)]
      have hb : (bt (aft L) ((0 : Nat) : Int) != 59) = true := bne_iff_ne.mpr c
      exact param_b L _ L L L L L L L L _ 0 0 0 0 0 _ 0 w hT ha H1 hz h00 hx hb
def abutmentref08_Param.f (a0 : ByteArray) : Option (ByteArray × ByteArray × ByteArray × Bool) := if a0.size ≤ 140737488351232 then some (paramP a0) else none
theorem abutmentref08_Param.calls (a0 : ByteArray) (r1 : ByteArray) (r2 : ByteArray) (r3 : ByteArray) (r4 : Bool) (w : World) (h : abutmentref08_Param.f a0 = some (r1, r2, r3, r4)) :
    Calls Try.prog 97 #[.string a0] w fun e w' => e = .returned (.tuple #[.agg #[.string r1, .string r2], .string r3, .bool r4]) ∧ Below w.heap.size w w' := by
  unfold abutmentref08_Param.f at h
  split at h
  · rename_i hs
    have h2 := param_any a0 hs w
    rw [Option.some.inj h] at h2
    exact h2
  · cases h
end Go.Proofs.Ytbelgmfhaddhmaa.V
