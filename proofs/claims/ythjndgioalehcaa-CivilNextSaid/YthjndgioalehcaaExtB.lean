/- The contracts of civil.Seconds (it holds a function in a variable, which the print does not take), of civil.Date and of the reference's Date, in the print's own form. -/
import Derived.Test.YthjndgioalehcaaPureB
import Derived.WalkKit
import Derived.WalkSpells
import Derived.WalkLawsBesides
import Derived.KernelRfl
import Derived.Lib.Hide
namespace Go.Proofs.Ythjndgioalehcaa.Q
open Go.RowKit Go.Proofs.YthjndgioalehcaaW.PrintWords
open Go.Proofs.Ythjndgioalehcaa.Pure Go.Proofs.Ythjndgioalehcaa.Plain

/-- Which day a place has, part by part. -/
def restI (n : Int) : Int := (n + 719468) % 146097
def cI (n : Int) : Int := if 3 < restI n / 36524 then 3 else restI n / 36524
def oneI (n : Int) : Int := restI n - cI n * 36524
def fI (n : Int) : Int := oneI n / 1461
def twoI (n : Int) : Int := oneI n - fI n * 1461
def oI (n : Int) : Int := if 3 < twoI n / 365 then 3 else twoI n / 365
def dayI (n : Int) : Int := twoI n - oI n * 365
def mI (n : Int) : Int := (5 * dayI n + 2) / 153
def ofI (n : Int) : Int × Int × Int × Bool :=
  if -719162 ≤ n ∧ n ≤ 2932896 then (yearOf ((n + 719468) / 146097) (cI n) (fI n) (oI n) (mI n), monthOf (mI n), dayOf (dayI n) (mI n), true) else (0, 0, 0, false)
theorem ofI_yes (n : Int) (h0 : -719162 ≤ n) (h1 : n ≤ 2932896) : ∃ y m d, ofI n = (y, m, d, true) ∧ right y m d = true ∧ num y m d = n ∧ Ev (fun k => civil_Of.f k n) (y, m, d, true) := by
  have P := parts n (restI n) ((n + 719468) / 146097) (cI n) (oneI n) (fI n) (twoI n) (oI n) (dayI n) (mI n) rfl rfl rfl rfl rfl rfl rfl rfl rfl
  obtain ⟨y, m, d, hr, hn, hE⟩ := Of_yes n h0 h1
  have a := (right_iff _ _ _).1 hr
  obtain ⟨m0, m1⟩ := month_in _ _ _ hr
  have pm := P.month
  have pd := P.day
  obtain ⟨e1, e2, e3⟩ := num_unique y m d _ _ _ m0 m1 a.2.2.1 a.2.2.2 pm.1 pm.2 pd.1 pd.2 (hn.trans P.num.symm)
  exact ⟨y, m, d, by rw [ofI, if_pos ⟨h0, h1⟩, e1, e2, e3], hr, hn, hE⟩
theorem ofI_no (n : Int) (h : n < -719162 ∨ 2932896 < n) : ofI n = (0, 0, 0, false) := if_neg (by omega)
theorem Of_is (n : Int) : Ev (fun k => civil_Of.f k n) (ofI n) := by
  by_cases h : -719162 ≤ n ∧ n ≤ 2932896
  · obtain ⟨y, m, d, he, _, _, hE⟩ := ofI_yes n h.1 h.2
    rw [he]; exact hE
  · rw [ofI_no n (by omega)]; exact Of_no n (by omega)
theorem rOf_is (n : Int) : Ev (fun k => abutmentref05_Of.f k n) ((ofI n).1, (ofI n).2.1, (ofI n).2.2.1, 0, 0, 0, (ofI n).2.2.2) := by
  by_cases h : -719162 ≤ n ∧ n ≤ 2932896
  · obtain ⟨y, m, d, he, hr, hn, hE⟩ := ofI_yes n h.1 h.2
    rw [he]; have := rOf_yes y m d hr; rw [hn] at this; exact this
  · rw [ofI_no n (by omega)]; exact rOf_no n (by omega)

theorem Of_any (n y m d : Int) (ok : Bool) (w : World) (h : Hid (ofI n = (y, m, d, ok))) : Calls Try.prog 14 #[.int .i64 n] w fun e w' => e = .returned (.tuple #[.int .i64 y, .int .i64 m, .int .i64 d, .bool ok]) ∧ Below w.heap.size w w' := by
  have hE := Of_is n
  rw [h.out] at hE
  obtain ⟨k, hk⟩ := hE.rounds
  exact civil_Of.calls k n y m d ok w hk
theorem rOf_any (n y m d : Int) (ok : Bool) (w : World) (h : Hid (ofI n = (y, m, d, ok))) : Calls Try.prog 15 #[.int .i64 n] w fun e w' => e = .returned (.tuple #[.agg #[.int .i64 y, .int .i64 m, .int .i64 d, .int .i64 0, .int .i64 0, .int .i64 0], .bool ok]) ∧ Below w.heap.size w w' := by
  have hE := rOf_is n
  rw [h.out] at hE
  obtain ⟨k, hk⟩ := hE.rounds
  exact abutmentref05_Of.calls k n y m d 0 0 0 ok w hk

def inTime (h m s : Int) : Bool := decide (0 ≤ h) && decide (h < 24) && decide (0 ≤ m) && decide (m < 60) && decide (0 ≤ s) && decide (s < 60)
theorem inTime_iff (h m s : Int) : inTime h m s = true ↔ 0 ≤ h ∧ h < 24 ∧ 0 ≤ m ∧ m < 60 ∧ 0 ≤ s ∧ s < 60 := by simp [inTime, and_assoc]
/-- How many seconds a date has. -/
def secI (a0 a1 a2 a3 a4 a5 : Int) : Int × Bool := if right a0 a1 a2 = true ∧ inTime a3 a4 a5 = true then (num a0 a1 a2 * 86400 + a3 * 3600 + a4 * 60 + a5, true) else (0, false)
def civil_Seconds.f (a0 : Int) (a1 : Int) (a2 : Int) (a3 : Int) (a4 : Int) (a5 : Int) : Option (Int × Bool) := some (secI a0 a1 a2 a3 a4 a5)
/-- Which date seconds have. -/
def dateI (s : Int) : Int × Int × Int × Int × Int × Int × Bool :=
  if (ofI (s / 86400)).2.2.2 = true then ((ofI (s / 86400)).1, (ofI (s / 86400)).2.1, (ofI (s / 86400)).2.2.1, s % 86400 / 3600, s % 86400 / 60 % 60, s % 86400 % 60, true) else (0, 0, 0, 0, 0, 0, false)
def dateF (s : Int) : Option (Int × Int × Int × Int × Int × Int × Bool) := if -9223372036854775808 ≤ s ∧ s ≤ 9223372036854775807 then some (dateI s) else none
def civil_Date.f (a0 : Int) : Option (Int × Int × Int × Int × Int × Int × Bool) := dateF a0
def abutmentref05_Date.f (a0 : Int) : Option (Int × Int × Int × Int × Int × Int × Bool) := dateF a0

set_option maxHeartbeats 400000 in
theorem within_any (n m : Int) (w : World) : Calls Try.prog 25 #[.int .i64 n, .int .i64 m] w fun e w' => e = .returned (.bool (decide (0 ≤ n) && decide (n < m))) ∧ w = w' := by
  by_cases c1 : 0 ≤ n
  · rw [show decide (0 ≤ n) = true from decide_eq_true c1, Bool.true_and]
    go_enter Try.func25, Try.ntmps25
    go_wp2
    go_ret
    exact ⟨rfl, rfl⟩
  · rw [show decide (0 ≤ n) = false from decide_eq_false c1, Bool.false_and]
    go_enter Try.func25, Try.ntmps25
    go_wp2
    go_ret
    exact ⟨rfl, rfl⟩
theorem within_yes (n m : Int) (w : World) (h0 : 0 ≤ n) (h1 : n < m) : Calls Try.prog 25 #[.int .i64 n, .int .i64 m] w fun e w' => e = .returned (.bool true) ∧ w = w' :=
  (within_any n m w).mono fun e w' ⟨he, hw⟩ => ⟨by rw [he, decide_eq_true h0, decide_eq_true h1]; rfl, hw⟩
theorem within_no (n m : Int) (w : World) (h : ¬ (0 ≤ n ∧ n < m)) : Calls Try.prog 25 #[.int .i64 n, .int .i64 m] w fun e w' => e = .returned (.bool false) ∧ w = w' := by
  refine (within_any n m w).mono fun e w' ⟨he, hw⟩ => ⟨?_, hw⟩
  rw [he]
  have : (decide (0 ≤ n) && decide (n < m)) = false := by
    rw [Bool.eq_false_iff]; simp; omega
  rw [this]
theorem Days_any (a0 a1 a2 : Int) (w : World) (h : Hid (right a0 a1 a2 = true)) : Calls Try.prog 7 #[.int .i64 a0, .int .i64 a1, .int .i64 a2] w fun e w' => e = .returned (.tuple #[.int .i64 (num a0 a1 a2), .bool true]) ∧ Below w.heap.size w w' :=
  civil_Days.calls a0 a1 a2 _ true w (Days_yes a0 a1 a2 h.out)
theorem Days_none (a0 a1 a2 : Int) (w : World) (h : Hid (¬ right a0 a1 a2 = true)) : Calls Try.prog 7 #[.int .i64 a0, .int .i64 a1, .int .i64 a2] w fun e w' => e = .returned (.tuple #[.int .i64 0, .bool false]) ∧ Below w.heap.size w w' :=
  civil_Days.calls a0 a1 a2 _ false w (Days_no a0 a1 a2 h.out)
theorem num_bd (a0 a1 a2 : Int) (h : right a0 a1 a2 = true) : -719162 ≤ num a0 a1 a2 ∧ num a0 a1 a2 ≤ 2932896 := by
  obtain ⟨m0, m1⟩ := month_in _ _ _ h
  rw [right_iff] at h
  exact num_range _ _ _ h.1 h.2.1 m0 m1 h.2.2.1 h.2.2.2

theorem bcell {W w1 : World} (hb : Below W.heap.size W w1) : (∀ b o, b < W.heap.size → w1.cell? ⟨b, o, none⟩ = W.cell? ⟨b, o, none⟩) ∧ (∀ b o, b < W.heap.size → w1.frozen? ⟨b, o, none⟩ = W.frozen? ⟨b, o, none⟩) :=
  ⟨fun b o h => hb.cell (p := ⟨b, o, none⟩) h, fun b o h => hb.frozen (p := ⟨b, o, none⟩) h⟩

set_option maxHeartbeats 1000000 in
theorem seconds_yes (a0 a1 a2 a3 a4 a5 N : Int) (w : World) (HR : Hid (right a0 a1 a2 = true)) (HN : Hid (num a0 a1 a2 = N)) (hb0 : -719162 ≤ N) (hb1 : N ≤ 2932896)
    (h30 : 0 ≤ a3) (h31 : a3 < 24) (h40 : 0 ≤ a4) (h41 : a4 < 60) (h50 : 0 ≤ a5) (h51 : a5 < 60) :
    Calls Try.prog 18 #[.agg #[.int .i64 a0, .int .i64 a1, .int .i64 a2, .int .i64 a3, .int .i64 a4, .int .i64 a5]] w fun e w' => e = .returned (.tuple #[.int .i64 (N * 86400 + a3 * 3600 + a4 * 60 + a5), .bool true]) ∧ Below w.heap.size w w' := by
  go_enter Try.func18, Try.ntmps18
  go_wp2_with fail
  refine (Days_any _ _ _ _ HR).mono ?_
  rw [HN.out]
  rintro e w1 ⟨rfl, hb⟩
  have hk := blk_below (blk_new w _) hb
  have k3 : w1.cell? ⟨w.heap.size, 3, none⟩ = some (.int .i64 a3) := (blk_cell hk 3).trans rfl
  have k4 : w1.cell? ⟨w.heap.size, 4, none⟩ = some (.int .i64 a4) := (blk_cell hk 4).trans rfl
  have k5 : w1.cell? ⟨w.heap.size, 5, none⟩ = some (.int .i64 a5) := (blk_cell hk 5).trans rfl
  have HB := Aside0.mk (below_step (below_alloc (Below.refl _ _) _) hb)
  clear hk hb
  go_wp2_with fail
  refine (within_yes _ _ _ h30 h31).mono ?_
  rintro e w2 ⟨rfl, rfl⟩
  go_wp2_with fail
  refine (within_yes _ _ _ h40 h41).mono ?_
  rintro e w2 ⟨rfl, rfl⟩
  go_wp2_with fail
  refine (within_yes _ _ _ h50 h51).mono ?_
  rintro e w2 ⟨rfl, rfl⟩
  go_wp2
  go_ret2
  exact ⟨rfl, HB.out⟩

set_option maxHeartbeats 1000000 in
theorem seconds_no (a0 a1 a2 a3 a4 a5 N : Int) (w : World) (HR : Hid (right a0 a1 a2 = true)) (HN : Hid (num a0 a1 a2 = N))
    (h : ¬ (0 ≤ a3 ∧ a3 < 24) ∨ (0 ≤ a3 ∧ a3 < 24) ∧ ¬ (0 ≤ a4 ∧ a4 < 60) ∨ (0 ≤ a3 ∧ a3 < 24) ∧ (0 ≤ a4 ∧ a4 < 60) ∧ ¬ (0 ≤ a5 ∧ a5 < 60)) :
    Calls Try.prog 18 #[.agg #[.int .i64 a0, .int .i64 a1, .int .i64 a2, .int .i64 a3, .int .i64 a4, .int .i64 a5]] w fun e w' => e = .returned (.tuple #[.int .i64 0, .bool false]) ∧ Below w.heap.size w w' := by
  go_enter Try.func18, Try.ntmps18
  go_wp2_with fail
  refine (Days_any _ _ _ _ HR).mono ?_
  rw [HN.out]
  rintro e w1 ⟨rfl, hb⟩
  have hk := blk_below (blk_new w _) hb
  have k3 : w1.cell? ⟨w.heap.size, 3, none⟩ = some (.int .i64 a3) := (blk_cell hk 3).trans rfl
  have k4 : w1.cell? ⟨w.heap.size, 4, none⟩ = some (.int .i64 a4) := (blk_cell hk 4).trans rfl
  have k5 : w1.cell? ⟨w.heap.size, 5, none⟩ = some (.int .i64 a5) := (blk_cell hk 5).trans rfl
  have HB := Aside0.mk (below_step (below_alloc (Below.refl _ _) _) hb)
  clear hk hb
  rcases h with h | ⟨h, h'⟩ | ⟨h, h', h''⟩
  · have H := Aside0.mk h
    clear h
    go_wp2_with fail
    refine (within_no _ _ _ H.out).mono ?_
    rintro e w2 ⟨rfl, rfl⟩
    go_wp2
    go_ret2
    exact ⟨rfl, HB.out⟩
  · have H := Aside0.mk h
    have H' := Aside0.mk h'
    clear h h'
    go_wp2_with fail
    refine (within_yes _ _ _ H.out.1 H.out.2).mono ?_
    rintro e w2 ⟨rfl, rfl⟩
    go_wp2_with fail
    refine (within_no _ _ _ H'.out).mono ?_
    rintro e w2 ⟨rfl, rfl⟩
    go_wp2
    go_ret2
    exact ⟨rfl, HB.out⟩
  · have H := Aside0.mk h
    have H' := Aside0.mk h'
    have H'' := Aside0.mk h''
    clear h h' h''
    go_wp2_with fail
    refine (within_yes _ _ _ H.out.1 H.out.2).mono ?_
    rintro e w2 ⟨rfl, rfl⟩
    go_wp2_with fail
    refine (within_yes _ _ _ H'.out.1 H'.out.2).mono ?_
    rintro e w2 ⟨rfl, rfl⟩
    go_wp2_with fail
    refine (within_no _ _ _ H''.out).mono ?_
    rintro e w2 ⟨rfl, rfl⟩
    go_wp2
    go_ret2
    exact ⟨rfl, HB.out⟩

theorem civil_Seconds.calls (a0 : Int) (a1 : Int) (a2 : Int) (a3 : Int) (a4 : Int) (a5 : Int) (r1 : Int) (r2 : Bool) (w : World) (h : civil_Seconds.f a0 a1 a2 a3 a4 a5 = some (r1, r2)) :
    Calls Try.prog 18 #[.agg #[.int .i64 a0, .int .i64 a1, .int .i64 a2, .int .i64 a3, .int .i64 a4, .int .i64 a5]] w fun e w' => e = .returned (.tuple #[.int .i64 r1, .bool r2]) ∧ Below w.heap.size w w' := by
  by_cases hr : right a0 a1 a2 = true
  · have hbd := num_bd _ _ _ hr
    by_cases hi : inTime a3 a4 a5 = true
    · simp only [civil_Seconds.f, secI, hr, hi, and_self, if_true, Option.some.injEq, Prod.mk.injEq] at h
      obtain ⟨rfl, rfl⟩ := h
      rw [inTime_iff] at hi
      exact seconds_yes a0 a1 a2 a3 a4 a5 _ w hr (Lib.hid rfl) hbd.1 hbd.2 hi.1 hi.2.1 hi.2.2.1 hi.2.2.2.1 hi.2.2.2.2.1 hi.2.2.2.2.2
    · rw [civil_Seconds.f, secI, if_neg (fun h => hi h.2)] at h
      simp only [Option.some.injEq, Prod.mk.injEq] at h
      obtain ⟨rfl, rfl⟩ := h
      rw [inTime_iff] at hi
      exact seconds_no a0 a1 a2 a3 a4 a5 _ w hr (Lib.hid rfl) (by omega)
  · have HR := Lib.hid hr
    simp only [civil_Seconds.f, secI, hr, Bool.false_eq_true, false_and, if_false, Option.some.injEq, Prod.mk.injEq] at h
    obtain ⟨rfl, rfl⟩ := h
    clear hr
    go_enter Try.func18, Try.ntmps18
    go_wp2_with (go_at_call 7; refine (Days_none _ _ _ _ HR).mono ?_; rintro e w' ⟨rfl, hb⟩)
    go_ret2
    exact ⟨rfl, ((Below.refl _ _).alloc (Nat.le_refl _) _).trans (hb.mono (by simp))⟩

/-- A block of the call's own and what has come behind it: its cells, in whatever world comes behind a call. -/
theorem date_block {w w1 : World} {cs : Array Value} (hb : Below (w.alloc (.cells cs 31)).heap.size (w.alloc (.cells cs 31)) w1) : w1.heap[w.heap.size]? = some (.cells cs 31 (0, 0)) := blk_below (blk_new w _) hb

set_option maxHeartbeats 1000000 in
set_option maxRecDepth 100000 in
theorem date_yes (a0 Q T : Int) (y m d : Int) (w : World) (hq : Hid (Int.tdiv a0 86400 = Q)) (ht : Hid (Int.tmod a0 86400 = T)) (q0 : -106751991167301 ≤ Q) (q1 : Q ≤ 106751991167301) (t0 : -86400 < T) (t1 : T < 86400)
    (hn : Hid (ofI (if T < 0 then Q - 1 else Q) = (y, m, d, true))) :
    Calls Try.prog 20 #[.int .i64 a0] w fun e w' => e = .returned (.tuple #[.agg #[.int .i64 y, .int .i64 m, .int .i64 d, .int .i64 ((if T < 0 then T + 86400 else T) / 3600), .int .i64 ((if T < 0 then T + 86400 else T) / 60 % 60), .int .i64 ((if T < 0 then T + 86400 else T) % 60)], .bool true]) ∧ Below w.heap.size w w' := by
  have hq' := hq.out
  have ht' := ht.out
  by_cases c : T < 0
  · have hn' : Hid (ofI (Q - 1) = (y, m, d, true)) := by have := hn.out; rw [if_pos c] at this; exact this
    rw [if_pos c]
    clear hn
    go_enter Try.func20, Try.ntmps20
    go_wp2_with fail
    refine (Of_any _ y m d true _ hn').mono ?_
    rintro e w1 ⟨rfl, hb⟩
    have hk := date_block hb
    have hcz0 : w1.cell? ⟨w.heap.size, 0, none⟩ = some (.int .i64 0) := (blk_cell hk 0).trans rfl
    have hcz1 : w1.cell? ⟨w.heap.size, 1, none⟩ = some (.int .i64 0) := (blk_cell hk 1).trans rfl
    have hcz2 : w1.cell? ⟨w.heap.size, 2, none⟩ = some (.int .i64 0) := (blk_cell hk 2).trans rfl
    have hcz3 : w1.cell? ⟨w.heap.size, 3, none⟩ = some (.int .i64 0) := (blk_cell hk 3).trans rfl
    have hcz4 : w1.cell? ⟨w.heap.size, 4, none⟩ = some (.int .i64 0) := (blk_cell hk 4).trans rfl
    have hcz5 : w1.cell? ⟨w.heap.size, 5, none⟩ = some (.int .i64 0) := (blk_cell hk 5).trans rfl
    have hfz0 := blk_frozen hk 0
    have hfz1 := blk_frozen hk 1
    have hfz2 := blk_frozen hk 2
    have hfz3 := blk_frozen hk 3
    have hfz4 := blk_frozen hk 4
    have hfz5 := blk_frozen hk 5
    have HB := Aside0.mk (below_step (below_alloc (Below.refl _ _) _) hb)
    have HK := Aside0.mk hk
    clear hk hb
    clear hq ht
    go_wp2
    have hfin : ((((((w1.setCell ⟨w.heap.size, 0, none⟩ (.int .i64 (y))).setCell ⟨w.heap.size, 1, none⟩ (.int .i64 (m))).setCell ⟨w.heap.size, 2, none⟩ (.int .i64 (d))).setCell ⟨w.heap.size, 3, none⟩ (.int .i64 ((T + 86400) / 3600))).setCell ⟨w.heap.size, 4, none⟩ (.int .i64 ((T + 86400) / 60 % 60))).setCell ⟨w.heap.size, 5, none⟩ (.int .i64 ((T + 86400) % 60))).heap[w.heap.size]? = some (.cells #[.int .i64 (y), .int .i64 (m), .int .i64 (d), .int .i64 ((T + 86400) / 3600), .int .i64 ((T + 86400) / 60 % 60), .int .i64 ((T + 86400) % 60)] 31 (0, 0)) := blk_set (blk_set (blk_set (blk_set (blk_set (blk_set HK.out 0 _) 1 _) 2 _) 3 _) 4 _) 5 _
    refine bodyPost_ret (results_ct rfl _ _ w.heap.size 31 #[.int .i64 (y), .int .i64 (m), .int .i64 (d), .int .i64 ((T + 86400) / 3600), .int .i64 ((T + 86400) / 60 % 60), .int .i64 ((T + 86400) % 60)] (0, 0) _ rfl hfin Try.underlying31 rfl (by kernel_rfl)) rfl ?_
    exact ⟨rfl, (below_set (below_set (below_set (below_set (below_set (below_set HB.out (Nat.le_refl _)) (Nat.le_refl _)) (Nat.le_refl _)) (Nat.le_refl _)) (Nat.le_refl _)) (Nat.le_refl _))⟩
  · have hn' : Hid (ofI Q = (y, m, d, true)) := by have := hn.out; rw [if_neg c] at this; exact this
    rw [if_neg c]
    clear hn
    go_enter Try.func20, Try.ntmps20
    go_wp2_with fail
    refine (Of_any _ y m d true _ hn').mono ?_
    rintro e w1 ⟨rfl, hb⟩
    have hk := date_block hb
    have hcz0 : w1.cell? ⟨w.heap.size, 0, none⟩ = some (.int .i64 0) := (blk_cell hk 0).trans rfl
    have hcz1 : w1.cell? ⟨w.heap.size, 1, none⟩ = some (.int .i64 0) := (blk_cell hk 1).trans rfl
    have hcz2 : w1.cell? ⟨w.heap.size, 2, none⟩ = some (.int .i64 0) := (blk_cell hk 2).trans rfl
    have hcz3 : w1.cell? ⟨w.heap.size, 3, none⟩ = some (.int .i64 0) := (blk_cell hk 3).trans rfl
    have hcz4 : w1.cell? ⟨w.heap.size, 4, none⟩ = some (.int .i64 0) := (blk_cell hk 4).trans rfl
    have hcz5 : w1.cell? ⟨w.heap.size, 5, none⟩ = some (.int .i64 0) := (blk_cell hk 5).trans rfl
    have hfz0 := blk_frozen hk 0
    have hfz1 := blk_frozen hk 1
    have hfz2 := blk_frozen hk 2
    have hfz3 := blk_frozen hk 3
    have hfz4 := blk_frozen hk 4
    have hfz5 := blk_frozen hk 5
    have HB := Aside0.mk (below_step (below_alloc (Below.refl _ _) _) hb)
    have HK := Aside0.mk hk
    clear hk hb
    clear hq ht
    go_wp2
    have hfin : ((((((w1.setCell ⟨w.heap.size, 0, none⟩ (.int .i64 (y))).setCell ⟨w.heap.size, 1, none⟩ (.int .i64 (m))).setCell ⟨w.heap.size, 2, none⟩ (.int .i64 (d))).setCell ⟨w.heap.size, 3, none⟩ (.int .i64 ((T) / 3600))).setCell ⟨w.heap.size, 4, none⟩ (.int .i64 ((T) / 60 % 60))).setCell ⟨w.heap.size, 5, none⟩ (.int .i64 ((T) % 60))).heap[w.heap.size]? = some (.cells #[.int .i64 (y), .int .i64 (m), .int .i64 (d), .int .i64 ((T) / 3600), .int .i64 ((T) / 60 % 60), .int .i64 ((T) % 60)] 31 (0, 0)) := blk_set (blk_set (blk_set (blk_set (blk_set (blk_set HK.out 0 _) 1 _) 2 _) 3 _) 4 _) 5 _
    refine bodyPost_ret (results_ct rfl _ _ w.heap.size 31 #[.int .i64 (y), .int .i64 (m), .int .i64 (d), .int .i64 ((T) / 3600), .int .i64 ((T) / 60 % 60), .int .i64 ((T) % 60)] (0, 0) _ rfl hfin Try.underlying31 rfl (by kernel_rfl)) rfl ?_
    exact ⟨rfl, (below_set (below_set (below_set (below_set (below_set (below_set HB.out (Nat.le_refl _)) (Nat.le_refl _)) (Nat.le_refl _)) (Nat.le_refl _)) (Nat.le_refl _)) (Nat.le_refl _))⟩
set_option maxHeartbeats 1000000 in
set_option maxRecDepth 100000 in
theorem date_no (a0 Q T : Int) (w : World) (hq : Hid (Int.tdiv a0 86400 = Q)) (ht : Hid (Int.tmod a0 86400 = T)) (q0 : -106751991167301 ≤ Q) (q1 : Q ≤ 106751991167301) (t0 : -86400 < T) (t1 : T < 86400)
    (hn : Hid (ofI (if T < 0 then Q - 1 else Q) = (0, 0, 0, false))) :
    Calls Try.prog 20 #[.int .i64 a0] w fun e w' => e = .returned (.tuple #[.agg #[.int .i64 0, .int .i64 0, .int .i64 0, .int .i64 0, .int .i64 0, .int .i64 0], .bool false]) ∧ Below w.heap.size w w' := by
  have hq' := hq.out
  have ht' := ht.out
  by_cases c : T < 0
  · have hn' : Hid (ofI (Q - 1) = (0, 0, 0, false)) := by have := hn.out; rw [if_pos c] at this; exact this
    clear hn
    go_enter Try.func20, Try.ntmps20
    go_wp2_with fail
    refine (Of_any _ 0 0 0 false _ hn').mono ?_
    rintro e w1 ⟨rfl, hb⟩
    have hk := date_block hb
    have hcz0 : w1.cell? ⟨w.heap.size, 0, none⟩ = some (.int .i64 0) := (blk_cell hk 0).trans rfl
    have hcz1 : w1.cell? ⟨w.heap.size, 1, none⟩ = some (.int .i64 0) := (blk_cell hk 1).trans rfl
    have hcz2 : w1.cell? ⟨w.heap.size, 2, none⟩ = some (.int .i64 0) := (blk_cell hk 2).trans rfl
    have hcz3 : w1.cell? ⟨w.heap.size, 3, none⟩ = some (.int .i64 0) := (blk_cell hk 3).trans rfl
    have hcz4 : w1.cell? ⟨w.heap.size, 4, none⟩ = some (.int .i64 0) := (blk_cell hk 4).trans rfl
    have hcz5 : w1.cell? ⟨w.heap.size, 5, none⟩ = some (.int .i64 0) := (blk_cell hk 5).trans rfl
    have hfz0 := blk_frozen hk 0
    have hfz1 := blk_frozen hk 1
    have hfz2 := blk_frozen hk 2
    have hfz3 := blk_frozen hk 3
    have hfz4 := blk_frozen hk 4
    have hfz5 := blk_frozen hk 5
    have HB := Aside0.mk (below_step (below_alloc (Below.refl _ _) _) hb)
    have HK := Aside0.mk hk
    clear hk hb
    clear hq ht
    go_wp2
    have hfin : ((((((w1.setCell ⟨w.heap.size, 0, none⟩ (.int .i64 (0))).setCell ⟨w.heap.size, 1, none⟩ (.int .i64 (0))).setCell ⟨w.heap.size, 2, none⟩ (.int .i64 (0))).setCell ⟨w.heap.size, 3, none⟩ (.int .i64 (0))).setCell ⟨w.heap.size, 4, none⟩ (.int .i64 (0))).setCell ⟨w.heap.size, 5, none⟩ (.int .i64 (0))).heap[w.heap.size]? = some (.cells #[.int .i64 (0), .int .i64 (0), .int .i64 (0), .int .i64 (0), .int .i64 (0), .int .i64 (0)] 31 (0, 0)) := blk_set (blk_set (blk_set (blk_set (blk_set (blk_set HK.out 0 _) 1 _) 2 _) 3 _) 4 _) 5 _
    refine bodyPost_ret (results_ct rfl _ _ w.heap.size 31 #[.int .i64 (0), .int .i64 (0), .int .i64 (0), .int .i64 (0), .int .i64 (0), .int .i64 (0)] (0, 0) _ rfl hfin Try.underlying31 rfl (by kernel_rfl)) rfl ?_
    exact ⟨rfl, (below_set (below_set (below_set (below_set (below_set (below_set HB.out (Nat.le_refl _)) (Nat.le_refl _)) (Nat.le_refl _)) (Nat.le_refl _)) (Nat.le_refl _)) (Nat.le_refl _))⟩
  · have hn' : Hid (ofI Q = (0, 0, 0, false)) := by have := hn.out; rw [if_neg c] at this; exact this
    clear hn
    go_enter Try.func20, Try.ntmps20
    go_wp2_with fail
    refine (Of_any _ 0 0 0 false _ hn').mono ?_
    rintro e w1 ⟨rfl, hb⟩
    have hk := date_block hb
    have hcz0 : w1.cell? ⟨w.heap.size, 0, none⟩ = some (.int .i64 0) := (blk_cell hk 0).trans rfl
    have hcz1 : w1.cell? ⟨w.heap.size, 1, none⟩ = some (.int .i64 0) := (blk_cell hk 1).trans rfl
    have hcz2 : w1.cell? ⟨w.heap.size, 2, none⟩ = some (.int .i64 0) := (blk_cell hk 2).trans rfl
    have hcz3 : w1.cell? ⟨w.heap.size, 3, none⟩ = some (.int .i64 0) := (blk_cell hk 3).trans rfl
    have hcz4 : w1.cell? ⟨w.heap.size, 4, none⟩ = some (.int .i64 0) := (blk_cell hk 4).trans rfl
    have hcz5 : w1.cell? ⟨w.heap.size, 5, none⟩ = some (.int .i64 0) := (blk_cell hk 5).trans rfl
    have hfz0 := blk_frozen hk 0
    have hfz1 := blk_frozen hk 1
    have hfz2 := blk_frozen hk 2
    have hfz3 := blk_frozen hk 3
    have hfz4 := blk_frozen hk 4
    have hfz5 := blk_frozen hk 5
    have HB := Aside0.mk (below_step (below_alloc (Below.refl _ _) _) hb)
    have HK := Aside0.mk hk
    clear hk hb
    clear hq ht
    go_wp2
    have hfin : ((((((w1.setCell ⟨w.heap.size, 0, none⟩ (.int .i64 (0))).setCell ⟨w.heap.size, 1, none⟩ (.int .i64 (0))).setCell ⟨w.heap.size, 2, none⟩ (.int .i64 (0))).setCell ⟨w.heap.size, 3, none⟩ (.int .i64 (0))).setCell ⟨w.heap.size, 4, none⟩ (.int .i64 (0))).setCell ⟨w.heap.size, 5, none⟩ (.int .i64 (0))).heap[w.heap.size]? = some (.cells #[.int .i64 (0), .int .i64 (0), .int .i64 (0), .int .i64 (0), .int .i64 (0), .int .i64 (0)] 31 (0, 0)) := blk_set (blk_set (blk_set (blk_set (blk_set (blk_set HK.out 0 _) 1 _) 2 _) 3 _) 4 _) 5 _
    refine bodyPost_ret (results_ct rfl _ _ w.heap.size 31 #[.int .i64 (0), .int .i64 (0), .int .i64 (0), .int .i64 (0), .int .i64 (0), .int .i64 (0)] (0, 0) _ rfl hfin Try.underlying31 rfl (by kernel_rfl)) rfl ?_
    exact ⟨rfl, (below_set (below_set (below_set (below_set (below_set (below_set HB.out (Nat.le_refl _)) (Nat.le_refl _)) (Nat.le_refl _)) (Nat.le_refl _)) (Nat.le_refl _)) (Nat.le_refl _))⟩
end Go.Proofs.Ythjndgioalehcaa.Q
