/- The contracts of civil.Date and of the reference's Date, in the print's own form. -/
import Derived.Test.YthjndgioalehcaaExtB
namespace Go.Proofs.Ythjndgioalehcaa.Q
open Go.RowKit Go.Proofs.YthjndgioalehcaaW.PrintWords
open Go.Proofs.Ythjndgioalehcaa.Pure Go.Proofs.Ythjndgioalehcaa.Plain
set_option linter.unusedVariables false
set_option maxHeartbeats 1000000 in
set_option maxRecDepth 100000 in
theorem rdate_neg_yes (a0 Q T : Int) (y m d : Int) (w : World) (hq : Hid (Int.tdiv a0 86400 = Q)) (ht : Hid (Int.tmod a0 86400 = T)) (q0 : -106751991167301 ≤ Q) (q1 : Q ≤ 106751991167301) (t0 : -86400 < T) (t1 : T < 0) (ha : a0 < 0) (hn' : Hid (ofI (Q - 1) = (y, m, d, true))) :
    Calls Try.prog 21 #[.int .i64 a0] w fun e w' => e = .returned (.tuple #[.agg #[.int .i64 (y), .int .i64 (m), .int .i64 (d), .int .i64 ((T + 86400) / 3600), .int .i64 ((T + 86400) % 3600 / 60), .int .i64 ((T + 86400) % 60)], .bool true]) ∧ Below w.heap.size w w' := by
  have hq' := hq.out
  have ht' := ht.out
  have hz : (T != 0) = true := bne_iff_ne.mpr (by omega)
  go_enter Try.func21, Try.ntmps21
  go_wp2_with fail
  refine (rOf_any _ y m d true _ hn').mono ?_
  rintro e w1 ⟨rfl, hb⟩
  have hk := date_block hb
  have hcz0 : w1.cell? ⟨w.heap.size, 0, none⟩ = some (.int .i64 0) := (blk_cell hk 0).trans rfl
  have hcz1 : w1.cell? ⟨w.heap.size, 1, none⟩ = some (.int .i64 0) := (blk_cell hk 1).trans rfl
  have hcz2 : w1.cell? ⟨w.heap.size, 2, none⟩ = some (.int .i64 0) := (blk_cell hk 2).trans rfl
  have hcz3 : w1.cell? ⟨w.heap.size, 3, none⟩ = some (.int .i64 0) := (blk_cell hk 3).trans rfl
  have hcz4 : w1.cell? ⟨w.heap.size, 4, none⟩ = some (.int .i64 0) := (blk_cell hk 4).trans rfl
  have hcz5 : w1.cell? ⟨w.heap.size, 5, none⟩ = some (.int .i64 0) := (blk_cell hk 5).trans rfl
  have hfz0 := blk_frozen hk 0
  have hfz1 := blk_frozen hk 1
  have hfz2 := blk_frozen hk 2
  have hfz3 := blk_frozen hk 3
  have hfz4 := blk_frozen hk 4
  have hfz5 := blk_frozen hk 5
  have hlt : w.heap.size < w1.heap.size := blk_lt hk
  have HB := Aside0.mk (below_step (below_alloc (Below.refl _ _) _) hb)
  have HK := Aside0.mk hk
  clear hk hb
  clear hq ht
  go_wp2
  have hfin : (((((((w1.setCell ⟨w.heap.size, 0, none⟩ (.int .i64 (y))).setCell ⟨w.heap.size, 1, none⟩ (.int .i64 (m))).setCell ⟨w.heap.size, 2, none⟩ (.int .i64 (d))).setCell ⟨w.heap.size, 3, none⟩ (.int .i64 ((T + 86400) / 3600))).setCell ⟨w.heap.size, 4, none⟩ (.int .i64 ((T + 86400) % 3600 / 60))).setCell ⟨w.heap.size, 5, none⟩ (.int .i64 ((T + 86400) % 60))).alloc (.cells #[.int .i64 (y), .int .i64 (m), .int .i64 (d), .int .i64 ((T + 86400) / 3600), .int .i64 ((T + 86400) % 3600 / 60), .int .i64 ((T + 86400) % 60)] 31)).heap[w.heap.size]? = some (.cells #[.int .i64 (y), .int .i64 (m), .int .i64 (d), .int .i64 ((T + 86400) / 3600), .int .i64 ((T + 86400) % 3600 / 60), .int .i64 ((T + 86400) % 60)] 31 (0, 0)) := blk_alloc (blk_set (blk_set (blk_set (blk_set (blk_set (blk_set HK.out 0 _) 1 _) 2 _) 3 _) 4 _) 5 _) _
  refine bodyPost_ret (results_ct rfl _ _ w.heap.size 31 #[.int .i64 (y), .int .i64 (m), .int .i64 (d), .int .i64 ((T + 86400) / 3600), .int .i64 ((T + 86400) % 3600 / 60), .int .i64 ((T + 86400) % 60)] (0, 0) _ rfl hfin Try.underlying31 rfl (by kernel_rfl)) rfl ?_
  exact ⟨rfl, below_alloc (below_set (below_set (below_set (below_set (below_set (below_set HB.out (Nat.le_refl _)) (Nat.le_refl _)) (Nat.le_refl _)) (Nat.le_refl _)) (Nat.le_refl _)) (Nat.le_refl _)) _⟩
set_option maxHeartbeats 1000000 in
set_option maxRecDepth 100000 in
theorem rdate_neg_no (a0 Q T : Int) (w : World) (hq : Hid (Int.tdiv a0 86400 = Q)) (ht : Hid (Int.tmod a0 86400 = T)) (q0 : -106751991167301 ≤ Q) (q1 : Q ≤ 106751991167301) (t0 : -86400 < T) (t1 : T < 0) (ha : a0 < 0) (hn' : Hid (ofI (Q - 1) = (0, 0, 0, false))) :
    Calls Try.prog 21 #[.int .i64 a0] w fun e w' => e = .returned (.tuple #[.agg #[.int .i64 (0), .int .i64 (0), .int .i64 (0), .int .i64 (0), .int .i64 (0), .int .i64 (0)], .bool false]) ∧ Below w.heap.size w w' := by
  have hq' := hq.out
  have ht' := ht.out
  have hz : (T != 0) = true := bne_iff_ne.mpr (by omega)
  go_enter Try.func21, Try.ntmps21
  go_wp2_with fail
  refine (rOf_any _ 0 0 0 false _ hn').mono ?_
  rintro e w1 ⟨rfl, hb⟩
  have hk := date_block hb
  have hcz0 : w1.cell? ⟨w.heap.size, 0, none⟩ = some (.int .i64 0) := (blk_cell hk 0).trans rfl
  have hcz1 : w1.cell? ⟨w.heap.size, 1, none⟩ = some (.int .i64 0) := (blk_cell hk 1).trans rfl
  have hcz2 : w1.cell? ⟨w.heap.size, 2, none⟩ = some (.int .i64 0) := (blk_cell hk 2).trans rfl
  have hcz3 : w1.cell? ⟨w.heap.size, 3, none⟩ = some (.int .i64 0) := (blk_cell hk 3).trans rfl
  have hcz4 : w1.cell? ⟨w.heap.size, 4, none⟩ = some (.int .i64 0) := (blk_cell hk 4).trans rfl
  have hcz5 : w1.cell? ⟨w.heap.size, 5, none⟩ = some (.int .i64 0) := (blk_cell hk 5).trans rfl
  have hfz0 := blk_frozen hk 0
  have hfz1 := blk_frozen hk 1
  have hfz2 := blk_frozen hk 2
  have hfz3 := blk_frozen hk 3
  have hfz4 := blk_frozen hk 4
  have hfz5 := blk_frozen hk 5
  have hlt : w.heap.size < w1.heap.size := blk_lt hk
  have HB := Aside0.mk (below_step (below_alloc (Below.refl _ _) _) hb)
  have HK := Aside0.mk hk
  clear hk hb
  clear hq ht
  go_wp2
  have hfin : (((((((w1.setCell ⟨w.heap.size, 0, none⟩ (.int .i64 (0))).setCell ⟨w.heap.size, 1, none⟩ (.int .i64 (0))).setCell ⟨w.heap.size, 2, none⟩ (.int .i64 (0))).setCell ⟨w.heap.size, 3, none⟩ (.int .i64 (0))).setCell ⟨w.heap.size, 4, none⟩ (.int .i64 (0))).setCell ⟨w.heap.size, 5, none⟩ (.int .i64 (0))).alloc (.cells #[.int .i64 (0), .int .i64 (0), .int .i64 (0), .int .i64 (0), .int .i64 (0), .int .i64 (0)] 31)).heap[w.heap.size]? = some (.cells #[.int .i64 (0), .int .i64 (0), .int .i64 (0), .int .i64 (0), .int .i64 (0), .int .i64 (0)] 31 (0, 0)) := blk_alloc (blk_set (blk_set (blk_set (blk_set (blk_set (blk_set HK.out 0 _) 1 _) 2 _) 3 _) 4 _) 5 _) _
  refine bodyPost_ret (results_ct rfl _ _ w.heap.size 31 #[.int .i64 (0), .int .i64 (0), .int .i64 (0), .int .i64 (0), .int .i64 (0), .int .i64 (0)] (0, 0) _ rfl hfin Try.underlying31 rfl (by kernel_rfl)) rfl ?_
  exact ⟨rfl, below_alloc (below_set (below_set (below_set (below_set (below_set (below_set HB.out (Nat.le_refl _)) (Nat.le_refl _)) (Nat.le_refl _)) (Nat.le_refl _)) (Nat.le_refl _)) (Nat.le_refl _)) _⟩
set_option maxHeartbeats 1000000 in
set_option maxRecDepth 100000 in
theorem rdate_pos_yes (a0 Q T : Int) (y m d : Int) (w : World) (hq : Hid (Int.tdiv a0 86400 = Q)) (ht : Hid (Int.tmod a0 86400 = T)) (q0 : -106751991167301 ≤ Q) (q1 : Q ≤ 106751991167301) (t0 : -86400 < T) (t1 : 0 ≤ T) (t2 : T < 86400) (ha : 0 ≤ a0) (hn' : Hid (ofI (Q) = (y, m, d, true))) :
    Calls Try.prog 21 #[.int .i64 a0] w fun e w' => e = .returned (.tuple #[.agg #[.int .i64 (y), .int .i64 (m), .int .i64 (d), .int .i64 ((T) / 3600), .int .i64 ((T) % 3600 / 60), .int .i64 ((T) % 60)], .bool true]) ∧ Below w.heap.size w w' := by
  have hq' := hq.out
  have ht' := ht.out
  go_enter Try.func21, Try.ntmps21
  go_wp2_with fail
  refine (rOf_any _ y m d true _ hn').mono ?_
  rintro e w1 ⟨rfl, hb⟩
  have hk := date_block hb
  have hcz0 : w1.cell? ⟨w.heap.size, 0, none⟩ = some (.int .i64 0) := (blk_cell hk 0).trans rfl
  have hcz1 : w1.cell? ⟨w.heap.size, 1, none⟩ = some (.int .i64 0) := (blk_cell hk 1).trans rfl
  have hcz2 : w1.cell? ⟨w.heap.size, 2, none⟩ = some (.int .i64 0) := (blk_cell hk 2).trans rfl
  have hcz3 : w1.cell? ⟨w.heap.size, 3, none⟩ = some (.int .i64 0) := (blk_cell hk 3).trans rfl
  have hcz4 : w1.cell? ⟨w.heap.size, 4, none⟩ = some (.int .i64 0) := (blk_cell hk 4).trans rfl
  have hcz5 : w1.cell? ⟨w.heap.size, 5, none⟩ = some (.int .i64 0) := (blk_cell hk 5).trans rfl
  have hfz0 := blk_frozen hk 0
  have hfz1 := blk_frozen hk 1
  have hfz2 := blk_frozen hk 2
  have hfz3 := blk_frozen hk 3
  have hfz4 := blk_frozen hk 4
  have hfz5 := blk_frozen hk 5
  have hlt : w.heap.size < w1.heap.size := blk_lt hk
  have HB := Aside0.mk (below_step (below_alloc (Below.refl _ _) _) hb)
  have HK := Aside0.mk hk
  clear hk hb
  clear hq ht
  go_wp2
  have hfin : (((((((w1.setCell ⟨w.heap.size, 0, none⟩ (.int .i64 (y))).setCell ⟨w.heap.size, 1, none⟩ (.int .i64 (m))).setCell ⟨w.heap.size, 2, none⟩ (.int .i64 (d))).setCell ⟨w.heap.size, 3, none⟩ (.int .i64 ((T) / 3600))).setCell ⟨w.heap.size, 4, none⟩ (.int .i64 ((T) % 3600 / 60))).setCell ⟨w.heap.size, 5, none⟩ (.int .i64 ((T) % 60))).alloc (.cells #[.int .i64 (y), .int .i64 (m), .int .i64 (d), .int .i64 ((T) / 3600), .int .i64 ((T) % 3600 / 60), .int .i64 ((T) % 60)] 31)).heap[w.heap.size]? = some (.cells #[.int .i64 (y), .int .i64 (m), .int .i64 (d), .int .i64 ((T) / 3600), .int .i64 ((T) % 3600 / 60), .int .i64 ((T) % 60)] 31 (0, 0)) := blk_alloc (blk_set (blk_set (blk_set (blk_set (blk_set (blk_set HK.out 0 _) 1 _) 2 _) 3 _) 4 _) 5 _) _
  refine bodyPost_ret (results_ct rfl _ _ w.heap.size 31 #[.int .i64 (y), .int .i64 (m), .int .i64 (d), .int .i64 ((T) / 3600), .int .i64 ((T) % 3600 / 60), .int .i64 ((T) % 60)] (0, 0) _ rfl hfin Try.underlying31 rfl (by kernel_rfl)) rfl ?_
  exact ⟨rfl, below_alloc (below_set (below_set (below_set (below_set (below_set (below_set HB.out (Nat.le_refl _)) (Nat.le_refl _)) (Nat.le_refl _)) (Nat.le_refl _)) (Nat.le_refl _)) (Nat.le_refl _)) _⟩
set_option maxHeartbeats 1000000 in
set_option maxRecDepth 100000 in
theorem rdate_pos_no (a0 Q T : Int) (w : World) (hq : Hid (Int.tdiv a0 86400 = Q)) (ht : Hid (Int.tmod a0 86400 = T)) (q0 : -106751991167301 ≤ Q) (q1 : Q ≤ 106751991167301) (t0 : -86400 < T) (t1 : 0 ≤ T) (t2 : T < 86400) (ha : 0 ≤ a0) (hn' : Hid (ofI (Q) = (0, 0, 0, false))) :
    Calls Try.prog 21 #[.int .i64 a0] w fun e w' => e = .returned (.tuple #[.agg #[.int .i64 (0), .int .i64 (0), .int .i64 (0), .int .i64 (0), .int .i64 (0), .int .i64 (0)], .bool false]) ∧ Below w.heap.size w w' := by
  have hq' := hq.out
  have ht' := ht.out
  go_enter Try.func21, Try.ntmps21
  go_wp2_with fail
  refine (rOf_any _ 0 0 0 false _ hn').mono ?_
  rintro e w1 ⟨rfl, hb⟩
  have hk := date_block hb
  have hcz0 : w1.cell? ⟨w.heap.size, 0, none⟩ = some (.int .i64 0) := (blk_cell hk 0).trans rfl
  have hcz1 : w1.cell? ⟨w.heap.size, 1, none⟩ = some (.int .i64 0) := (blk_cell hk 1).trans rfl
  have hcz2 : w1.cell? ⟨w.heap.size, 2, none⟩ = some (.int .i64 0) := (blk_cell hk 2).trans rfl
  have hcz3 : w1.cell? ⟨w.heap.size, 3, none⟩ = some (.int .i64 0) := (blk_cell hk 3).trans rfl
  have hcz4 : w1.cell? ⟨w.heap.size, 4, none⟩ = some (.int .i64 0) := (blk_cell hk 4).trans rfl
  have hcz5 : w1.cell? ⟨w.heap.size, 5, none⟩ = some (.int .i64 0) := (blk_cell hk 5).trans rfl
  have hfz0 := blk_frozen hk 0
  have hfz1 := blk_frozen hk 1
  have hfz2 := blk_frozen hk 2
  have hfz3 := blk_frozen hk 3
  have hfz4 := blk_frozen hk 4
  have hfz5 := blk_frozen hk 5
  have hlt : w.heap.size < w1.heap.size := blk_lt hk
  have HB := Aside0.mk (below_step (below_alloc (Below.refl _ _) _) hb)
  have HK := Aside0.mk hk
  clear hk hb
  clear hq ht
  go_wp2
  have hfin : (((((((w1.setCell ⟨w.heap.size, 0, none⟩ (.int .i64 (0))).setCell ⟨w.heap.size, 1, none⟩ (.int .i64 (0))).setCell ⟨w.heap.size, 2, none⟩ (.int .i64 (0))).setCell ⟨w.heap.size, 3, none⟩ (.int .i64 (0))).setCell ⟨w.heap.size, 4, none⟩ (.int .i64 (0))).setCell ⟨w.heap.size, 5, none⟩ (.int .i64 (0))).alloc (.cells #[.int .i64 (0), .int .i64 (0), .int .i64 (0), .int .i64 (0), .int .i64 (0), .int .i64 (0)] 31)).heap[w.heap.size]? = some (.cells #[.int .i64 (0), .int .i64 (0), .int .i64 (0), .int .i64 (0), .int .i64 (0), .int .i64 (0)] 31 (0, 0)) := blk_alloc (blk_set (blk_set (blk_set (blk_set (blk_set (blk_set HK.out 0 _) 1 _) 2 _) 3 _) 4 _) 5 _) _
  refine bodyPost_ret (results_ct rfl _ _ w.heap.size 31 #[.int .i64 (0), .int .i64 (0), .int .i64 (0), .int .i64 (0), .int .i64 (0), .int .i64 (0)] (0, 0) _ rfl hfin Try.underlying31 rfl (by kernel_rfl)) rfl ?_
  exact ⟨rfl, below_alloc (below_set (below_set (below_set (below_set (below_set (below_set HB.out (Nat.le_refl _)) (Nat.le_refl _)) (Nat.le_refl _)) (Nat.le_refl _)) (Nat.le_refl _)) (Nat.le_refl _)) _⟩
set_option maxHeartbeats 1000000 in
set_option maxRecDepth 100000 in
theorem rdate_zero_yes (a0 Q T : Int) (y m d : Int) (w : World) (hq : Hid (Int.tdiv a0 86400 = Q)) (ht : Hid (Int.tmod a0 86400 = T)) (q0 : -106751991167301 ≤ Q) (q1 : Q ≤ 106751991167301) (t0 : -86400 < T) (t1 : 0 ≤ T) (t2 : T < 1) (ha : a0 < 0) (hn' : Hid (ofI (Q) = (y, m, d, true))) :
    Calls Try.prog 21 #[.int .i64 a0] w fun e w' => e = .returned (.tuple #[.agg #[.int .i64 (y), .int .i64 (m), .int .i64 (d), .int .i64 ((T) / 3600), .int .i64 ((T) % 3600 / 60), .int .i64 ((T) % 60)], .bool true]) ∧ Below w.heap.size w w' := by
  have hq' := hq.out
  have ht' := ht.out
  have hz : (T != 0) = false := bne_eq_false_iff_eq.mpr (by omega)
  go_enter Try.func21, Try.ntmps21
  go_wp2_with fail
  refine (rOf_any _ y m d true _ hn').mono ?_
  rintro e w1 ⟨rfl, hb⟩
  have hk := date_block hb
  have hcz0 : w1.cell? ⟨w.heap.size, 0, none⟩ = some (.int .i64 0) := (blk_cell hk 0).trans rfl
  have hcz1 : w1.cell? ⟨w.heap.size, 1, none⟩ = some (.int .i64 0) := (blk_cell hk 1).trans rfl
  have hcz2 : w1.cell? ⟨w.heap.size, 2, none⟩ = some (.int .i64 0) := (blk_cell hk 2).trans rfl
  have hcz3 : w1.cell? ⟨w.heap.size, 3, none⟩ = some (.int .i64 0) := (blk_cell hk 3).trans rfl
  have hcz4 : w1.cell? ⟨w.heap.size, 4, none⟩ = some (.int .i64 0) := (blk_cell hk 4).trans rfl
  have hcz5 : w1.cell? ⟨w.heap.size, 5, none⟩ = some (.int .i64 0) := (blk_cell hk 5).trans rfl
  have hfz0 := blk_frozen hk 0
  have hfz1 := blk_frozen hk 1
  have hfz2 := blk_frozen hk 2
  have hfz3 := blk_frozen hk 3
  have hfz4 := blk_frozen hk 4
  have hfz5 := blk_frozen hk 5
  have hlt : w.heap.size < w1.heap.size := blk_lt hk
  have HB := Aside0.mk (below_step (below_alloc (Below.refl _ _) _) hb)
  have HK := Aside0.mk hk
  clear hk hb
  clear hq ht
  go_wp2
  have hfin : (((((((w1.setCell ⟨w.heap.size, 0, none⟩ (.int .i64 (y))).setCell ⟨w.heap.size, 1, none⟩ (.int .i64 (m))).setCell ⟨w.heap.size, 2, none⟩ (.int .i64 (d))).setCell ⟨w.heap.size, 3, none⟩ (.int .i64 ((T) / 3600))).setCell ⟨w.heap.size, 4, none⟩ (.int .i64 ((T) % 3600 / 60))).setCell ⟨w.heap.size, 5, none⟩ (.int .i64 ((T) % 60))).alloc (.cells #[.int .i64 (y), .int .i64 (m), .int .i64 (d), .int .i64 ((T) / 3600), .int .i64 ((T) % 3600 / 60), .int .i64 ((T) % 60)] 31)).heap[w.heap.size]? = some (.cells #[.int .i64 (y), .int .i64 (m), .int .i64 (d), .int .i64 ((T) / 3600), .int .i64 ((T) % 3600 / 60), .int .i64 ((T) % 60)] 31 (0, 0)) := blk_alloc (blk_set (blk_set (blk_set (blk_set (blk_set (blk_set HK.out 0 _) 1 _) 2 _) 3 _) 4 _) 5 _) _
  refine bodyPost_ret (results_ct rfl _ _ w.heap.size 31 #[.int .i64 (y), .int .i64 (m), .int .i64 (d), .int .i64 ((T) / 3600), .int .i64 ((T) % 3600 / 60), .int .i64 ((T) % 60)] (0, 0) _ rfl hfin Try.underlying31 rfl (by kernel_rfl)) rfl ?_
  exact ⟨rfl, below_alloc (below_set (below_set (below_set (below_set (below_set (below_set HB.out (Nat.le_refl _)) (Nat.le_refl _)) (Nat.le_refl _)) (Nat.le_refl _)) (Nat.le_refl _)) (Nat.le_refl _)) _⟩
set_option maxHeartbeats 1000000 in
set_option maxRecDepth 100000 in
theorem rdate_zero_no (a0 Q T : Int) (w : World) (hq : Hid (Int.tdiv a0 86400 = Q)) (ht : Hid (Int.tmod a0 86400 = T)) (q0 : -106751991167301 ≤ Q) (q1 : Q ≤ 106751991167301) (t0 : -86400 < T) (t1 : 0 ≤ T) (t2 : T < 1) (ha : a0 < 0) (hn' : Hid (ofI (Q) = (0, 0, 0, false))) :
    Calls Try.prog 21 #[.int .i64 a0] w fun e w' => e = .returned (.tuple #[.agg #[.int .i64 (0), .int .i64 (0), .int .i64 (0), .int .i64 (0), .int .i64 (0), .int .i64 (0)], .bool false]) ∧ Below w.heap.size w w' := by
  have hq' := hq.out
  have ht' := ht.out
  have hz : (T != 0) = false := bne_eq_false_iff_eq.mpr (by omega)
  go_enter Try.func21, Try.ntmps21
  go_wp2_with fail
  refine (rOf_any _ 0 0 0 false _ hn').mono ?_
  rintro e w1 ⟨rfl, hb⟩
  have hk := date_block hb
  have hcz0 : w1.cell? ⟨w.heap.size, 0, none⟩ = some (.int .i64 0) := (blk_cell hk 0).trans rfl
  have hcz1 : w1.cell? ⟨w.heap.size, 1, none⟩ = some (.int .i64 0) := (blk_cell hk 1).trans rfl
  have hcz2 : w1.cell? ⟨w.heap.size, 2, none⟩ = some (.int .i64 0) := (blk_cell hk 2).trans rfl
  have hcz3 : w1.cell? ⟨w.heap.size, 3, none⟩ = some (.int .i64 0) := (blk_cell hk 3).trans rfl
  have hcz4 : w1.cell? ⟨w.heap.size, 4, none⟩ = some (.int .i64 0) := (blk_cell hk 4).trans rfl
  have hcz5 : w1.cell? ⟨w.heap.size, 5, none⟩ = some (.int .i64 0) := (blk_cell hk 5).trans rfl
  have hfz0 := blk_frozen hk 0
  have hfz1 := blk_frozen hk 1
  have hfz2 := blk_frozen hk 2
  have hfz3 := blk_frozen hk 3
  have hfz4 := blk_frozen hk 4
  have hfz5 := blk_frozen hk 5
  have hlt : w.heap.size < w1.heap.size := blk_lt hk
  have HB := Aside0.mk (below_step (below_alloc (Below.refl _ _) _) hb)
  have HK := Aside0.mk hk
  clear hk hb
  clear hq ht
  go_wp2
  have hfin : (((((((w1.setCell ⟨w.heap.size, 0, none⟩ (.int .i64 (0))).setCell ⟨w.heap.size, 1, none⟩ (.int .i64 (0))).setCell ⟨w.heap.size, 2, none⟩ (.int .i64 (0))).setCell ⟨w.heap.size, 3, none⟩ (.int .i64 (0))).setCell ⟨w.heap.size, 4, none⟩ (.int .i64 (0))).setCell ⟨w.heap.size, 5, none⟩ (.int .i64 (0))).alloc (.cells #[.int .i64 (0), .int .i64 (0), .int .i64 (0), .int .i64 (0), .int .i64 (0), .int .i64 (0)] 31)).heap[w.heap.size]? = some (.cells #[.int .i64 (0), .int .i64 (0), .int .i64 (0), .int .i64 (0), .int .i64 (0), .int .i64 (0)] 31 (0, 0)) := blk_alloc (blk_set (blk_set (blk_set (blk_set (blk_set (blk_set HK.out 0 _) 1 _) 2 _) 3 _) 4 _) 5 _) _
  refine bodyPost_ret (results_ct rfl _ _ w.heap.size 31 #[.int .i64 (0), .int .i64 (0), .int .i64 (0), .int .i64 (0), .int .i64 (0), .int .i64 (0)] (0, 0) _ rfl hfin Try.underlying31 rfl (by kernel_rfl)) rfl ?_
  exact ⟨rfl, below_alloc (below_set (below_set (below_set (below_set (below_set (below_set HB.out (Nat.le_refl _)) (Nat.le_refl _)) (Nat.le_refl _)) (Nat.le_refl _)) (Nat.le_refl _)) (Nat.le_refl _)) _⟩

theorem split_secs (a0 : Int) (h : -9223372036854775808 ≤ a0 ∧ a0 ≤ 9223372036854775807) : ∃ Q T, Int.tdiv a0 86400 = Q ∧ Int.tmod a0 86400 = T ∧ -106751991167301 ≤ Q ∧ Q ≤ 106751991167301 ∧ -86400 < T ∧ T < 86400 ∧
    ((T < 0 ∧ a0 < 0 ∧ Q - 1 = a0 / 86400 ∧ T + 86400 = a0 % 86400) ∨ (0 ≤ T ∧ 0 ≤ a0 ∧ Q = a0 / 86400 ∧ T = a0 % 86400) ∨ (0 ≤ T ∧ T < 1 ∧ a0 < 0 ∧ Q = a0 / 86400 ∧ T = a0 % 86400)) := by
  have e : a0 = 86400 * Int.tdiv a0 86400 + Int.tmod a0 86400 := (Int.mul_tdiv_add_tmod a0 86400).symm
  have l := Int.lt_tmod_of_pos a0 (b := 86400) (by omega)
  have u := Int.tmod_lt_of_pos a0 (b := 86400) (by omega)
  have n1 : 0 ≤ a0 → 0 ≤ Int.tmod a0 86400 := fun h => Int.tmod_nonneg _ h
  have n2 : a0 < 0 → Int.tmod a0 86400 ≤ 0 := fun h => by
    have := Int.tmod_nonneg (a := -a0) 86400 (by omega)
    rw [Int.neg_tmod] at this; omega
  refine ⟨_, _, rfl, rfl, ?_⟩
  generalize Int.tdiv a0 86400 = Q at *
  generalize Int.tmod a0 86400 = T at *
  by_cases c : 0 ≤ a0
  · have := n1 c; omega
  · have := n2 (by omega); omega

theorem ofI_cases (n : Int) : (∃ y m d, ofI n = (y, m, d, true)) ∨ ofI n = (0, 0, 0, false) := by
  by_cases h : -719162 ≤ n ∧ n ≤ 2932896
  · obtain ⟨y, m, d, he, _⟩ := ofI_yes n h.1 h.2
    exact .inl ⟨y, m, d, he⟩
  · exact .inr (ofI_no n (by omega))
theorem dateI_yes {s y m d : Int} (h : ofI (s / 86400) = (y, m, d, true)) : dateI s = (y, m, d, s % 86400 / 3600, s % 86400 / 60 % 60, s % 86400 % 60, true) := by
  rw [dateI, h]; rfl
theorem dateI_no {s : Int} (h : ofI (s / 86400) = (0, 0, 0, false)) : dateI s = (0, 0, 0, 0, 0, 0, false) := by
  rw [dateI, h]; rfl
theorem dateF_some {s : Int} {r : Int × Int × Int × Int × Int × Int × Bool} (h : dateF s = some r) : (-9223372036854775808 ≤ s ∧ s ≤ 9223372036854775807) ∧ dateI s = r := by
  unfold dateF at h
  split at h
  · rename_i hs; exact ⟨hs, Option.some.inj h⟩
  · cases h
theorem mins (r : Int) (h0 : 0 ≤ r) : r % 3600 / 60 = r / 60 % 60 := by omega

theorem civil_Date.calls (a0 : Int) (r1 : Int) (r2 : Int) (r3 : Int) (r4 : Int) (r5 : Int) (r6 : Int) (r7 : Bool) (w : World) (h : civil_Date.f a0 = some (r1, r2, r3, r4, r5, r6, r7)) :
    Calls Try.prog 20 #[.int .i64 a0] w fun e w' => e = .returned (.tuple #[.agg #[.int .i64 r1, .int .i64 r2, .int .i64 r3, .int .i64 r4, .int .i64 r5, .int .i64 r6], .bool r7]) ∧ Below w.heap.size w w' := by
  obtain ⟨hs, he⟩ := dateF_some h
  obtain ⟨Q, T, hQ, hT, q0, q1, t0, t1, hc⟩ := split_secs a0 hs
  have hday : (if T < 0 then Q - 1 else Q) = a0 / 86400 := by split <;> omega
  have hrest : (if T < 0 then T + 86400 else T) = a0 % 86400 := by split <;> omega
  rcases ofI_cases (a0 / 86400) with ⟨y, m, d, ho⟩ | ho
  · rw [dateI_yes ho] at he
    simp only [Prod.mk.injEq] at he
    obtain ⟨rfl, rfl, rfl, rfl, rfl, rfl, rfl⟩ := he
    have := date_yes a0 Q T y m d w hQ hT q0 q1 t0 t1 (by rw [hday]; exact ho)
    rw [hrest] at this
    exact this
  · rw [dateI_no ho] at he
    simp only [Prod.mk.injEq] at he
    obtain ⟨rfl, rfl, rfl, rfl, rfl, rfl, rfl⟩ := he
    exact date_no a0 Q T w hQ hT q0 q1 t0 t1 (by rw [hday]; exact ho)
theorem abutmentref05_Date.calls (a0 : Int) (r1 : Int) (r2 : Int) (r3 : Int) (r4 : Int) (r5 : Int) (r6 : Int) (r7 : Bool) (w : World) (h : abutmentref05_Date.f a0 = some (r1, r2, r3, r4, r5, r6, r7)) :
    Calls Try.prog 21 #[.int .i64 a0] w fun e w' => e = .returned (.tuple #[.agg #[.int .i64 r1, .int .i64 r2, .int .i64 r3, .int .i64 r4, .int .i64 r5, .int .i64 r6], .bool r7]) ∧ Below w.heap.size w w' := by
  obtain ⟨hs, he⟩ := dateF_some h
  obtain ⟨Q, T, hQ, hT, q0, q1, t0, t1, hc⟩ := split_secs a0 hs
  have hm := mins (a0 % 86400) (by omega)
  rcases ofI_cases (a0 / 86400) with ⟨y, m, d, ho⟩ | ho
  · rw [dateI_yes ho] at he
    simp only [Prod.mk.injEq] at he
    obtain ⟨rfl, rfl, rfl, rfl, rfl, rfl, rfl⟩ := he
    rw [← hm]
    rcases hc with ⟨c1, c2, c3, c4⟩ | ⟨c1, c2, c3, c4⟩ | ⟨c0, c1, c2, c3, c4⟩
    · rw [← c4]; exact rdate_neg_yes a0 Q T y m d w hQ hT q0 q1 t0 c1 c2 (by rw [c3]; exact ho)
    · rw [← c4]; exact rdate_pos_yes a0 Q T y m d w hQ hT q0 q1 t0 c1 t1 c2 (by rw [c3]; exact ho)
    · rw [← c4]; exact rdate_zero_yes a0 Q T y m d w hQ hT q0 q1 t0 c0 c1 c2 (by rw [c3]; exact ho)
  · rw [dateI_no ho] at he
    simp only [Prod.mk.injEq] at he
    obtain ⟨rfl, rfl, rfl, rfl, rfl, rfl, rfl⟩ := he
    rcases hc with ⟨c1, c2, c3, c4⟩ | ⟨c1, c2, c3, c4⟩ | ⟨c0, c1, c2, c3, c4⟩
    · exact rdate_neg_no a0 Q T w hQ hT q0 q1 t0 c1 c2 (by rw [c3]; exact ho)
    · exact rdate_pos_no a0 Q T w hQ hT q0 q1 t0 c1 t1 c2 (by rw [c3]; exact ho)
    · exact rdate_zero_no a0 Q T w hQ hT q0 q1 t0 c0 c1 c2 (by rw [c3]; exact ho)
end Go.Proofs.Ythjndgioalehcaa.Q
