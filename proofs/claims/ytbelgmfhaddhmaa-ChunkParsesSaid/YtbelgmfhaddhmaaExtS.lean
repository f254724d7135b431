/- The contract of chunk.Sizes. -/
import Derived.Test.YtbelgmfhaddhmaaC0
import Derived.Test.YtbelgmfhaddhmaaExtR
namespace Go.Proofs.Ytbelgmfhaddhmaa.C
open Go.RowKit Go.Proofs.YtbelgmfhaddhmaaW.PrintWords Go.Proofs.YtbelgmfhaddhmaaW.PrintMore Go.Proofs.Ytbelgmfhaddhmaa.Q
set_option linter.unusedVariables false
set_option linter.unusedSimpArgs false
/-- Where Sizes' list stands. -/
structure ZSt (W : World) (B gl : Nat) (v : Value) (l : List Int) : Prop where
  cl : W.heap[gl]? = some (.cells #[v] 25 (0, 0))
  own : Kd.R (Kd.int .i64) 3 W B (fun _ => True) v l
set_option maxHeartbeats 4000000 in
set_option maxRecDepth 100000 in
theorem put_any (W0 W : World) (B gl : Nat) (v : Value) (l : List Int) (x : Int) (h : ZSt W B gl v l) (hB0 : Below B W0 W) (hB : B ≤ W.heap.size) (hgl : B ≤ gl) (hl : (l.length + 1) * 8 ≤ 140737488355328) :
    Calls Try.prog 73 #[.int .i64 x, .pointer (some ⟨gl, 0, none⟩)] W fun e w' => e = .returned (.tuple #[]) ∧ ∃ v', ZSt w' B gl v' (l ++ [x]) ∧ Below B W0 w' := by
  obtain ⟨A, c, hv⟩ := Kd.R_slice h.own
  subst hv
  have hcl := (blk_cell h.cl 0).trans rfl
  have hfl := blk_frozen h.cl 0
  have H := Aside0.mk h
  have HB0 := Aside0.mk hB0
  clear h hB0
  go_enter Try.func73, Try.ntmps73
  go_wp2_with (at_builtin; refine Kd.R_append (Kd.int .i64) (w0 := W0) B rfl (.tmp 3) (.tmp 5) 25 3 (.int .i64 0) 8 rfl Try.underlying25 info3 rfl (by decide) (by omega) _ l x [.int .i64 x] (fun _ => True) (fun _ => False) rfl rfl rfl (fun _ hk => hk.elim) (fun _ _ => trivial) H.out.own HB0.out hB hl ?_)
  intro v1 w1 hown hB1 hgr hat
  obtain ⟨A1, c1, hv1⟩ := Kd.R_slice hown
  subst hv1
  have hg11 := blk_grown H.out.cl hgr (Kd.R_ne H.out.own H.out.cl (by decide))
  have hcl11 := (blk_cell hg11 0).trans rfl
  have hfl11 := blk_frozen hg11 0
  have HR := Aside0.mk (Kd.R_set hown hg11 (by intro q hq; simp only [Kd.int, Kd.scalar, List.mem_cons, List.not_mem_nil, or_false] at hq; subst hq; decide) 0 (.slice A1 (l ++ [x]).length c1))
  have HC := Aside0.mk (blk_put hg11 0 (.slice A1 (l ++ [x]).length c1) rfl)
  have HB := Aside0.mk (hB1.setCell (p := ⟨gl, 0, none⟩) hgl (.slice A1 (l ++ [x]).length c1))
  clear hg11 hown hB1 hgr hat hcl hfl
  have hll : (l ++ [x]).length = l.length + 1 := by rw [List.length_append]; rfl
  rw [hll] at HC HR HB
  go_wp2
  refine bodyPost_end (results_none rfl _ _ _) rfl ?_
  exact ⟨rfl, _, ⟨HC.out, HR.out⟩, HB.out⟩
theorem ZSt.below {W W' : World} {B gl : Nat} {v : Value} {l : List Int} (h : ZSt W B gl v l) (hb : Below W.heap.size W W') : ZSt W' B gl v l := ⟨blk_below h.cl hb, Kd.R_below h.own hb⟩
/-- The sizes. -/
def szF : Nat → Nat → Nat → List Int
  | 0, n, _ => [(n : Int)]
  | f + 1, n, e => if e < n then (e : Int) :: szF f (n - e) e else [(n : Int)]
theorem szF_end (f n e : Nat) (h : ¬ e < n) : szF f n e = [(n : Int)] := by
  cases f with
  | zero => rfl
  | succ f => rw [szF, if_neg h]
def szP (n each : Int) : List Int := if n < 1 ∨ n > 1048576 ∨ each < 1 then [] else szF n.toNat n.toNat each.toNat
set_option maxHeartbeats 4000000 in
set_option maxRecDepth 100000 in
theorem sizes_main (n e : Nat) (h1 : 1 ≤ n) (h2 : n ≤ 1048576) (h3 : 1 ≤ e) (h4 : (e : Int) ≤ 9223372036854775807) (w : World) : Calls Try.prog 21 #[.int .i64 (n : Int), .int .i64 (e : Int)] w fun en w' => ∃ v, en = .returned v ∧ Kd.R (Kd.int .i64) 3 w' w.heap.size (fun _ => True) v (szF n n e) ∧ Below w.heap.size w w' := by
  have g1 : ¬ (n : Int) < 1 := by omega
  have g2 : ¬ (n : Int) > 1048576 := by omega
  have g3 : ¬ (e : Int) < 1 := by omega
  go_enter Try.func21, Try.ntmps21
  go_wp2
  obtain ⟨z1, hz1⟩ : ∃ z1, w.alloc (.cells #[.slice none 0 0] 25 (0, 0)) = z1 := ⟨_, rfl⟩
  have HZ1 : Aside0 (ZSt z1 w.heap.size w.heap.size (.slice none 0 0) []) := ⟨by rw [← hz1]; exact ⟨blk_new _ _, Kd.R_nil _ _ _ _ _⟩⟩
  have HB1 : Aside0 (Below w.heap.size w z1) := ⟨by rw [← hz1]; exact below_alloc (Below.refl _ _) _⟩
  rw [hz1]
  clear hz1
  obtain ⟨B, hB⟩ : ∃ B, w.heap.size = B := ⟨_, rfl⟩
  obtain ⟨gl, hgl⟩ : ∃ gl, gl = B := ⟨_, rfl⟩
  have HBB := Lib.hid hB
  have hglB : B ≤ gl := by omega
  rw [hB] at HZ1 HB1
  rw [hB] at ⊢
  clear hB
  rw [← hgl]
  have HZ2 : Aside0 (ZSt z1 B gl (.slice none 0 0) []) := ⟨by have := HZ1.out; rw [hgl]; exact this⟩
  clear HZ1 hgl g1 g2 g3
  go_loopg [0] n (fun k v0 wr => ∃ (m f : Nat) (v : Value) (l : List Int), v0 = .int .i64 (m : Int) ∧ Aside0 (m ≤ k ∧ m ≤ f ∧ m ≤ n ∧ l.length + m ≤ n) ∧ Aside0 (l ++ szF f m e = szF n n e) ∧ Aside0 (ZSt wr B gl v l) ∧ Aside0 (Below B w wr))
  case atStart => exact ⟨n, n, _, [], rfl, ⟨Nat.le_refl _, Nat.le_refl _, Nat.le_refl _, by simp⟩, ⟨rfl⟩, HZ2, HB1⟩
  case round =>
    obtain ⟨m, f, v, l, rfl, HM, HS, HZ, HB⟩ := hrel
    obtain ⟨m1, m2, m3, m4⟩ := HM.out
    have hBs : B ≤ wr.heap.size := by rw [← HBB.out]; exact HB.out.size
    by_cases hc : e < m
    · have hcI : (e : Int) < (m : Int) := by omega
      have hsub : (m : Int) - (e : Int) = ((m - e : Nat) : Int) := by omega
      obtain ⟨f', rfl⟩ : ∃ f', f = f' + 1 := ⟨f - 1, by omega⟩
      have HS2 : Aside0 ((l ++ [(e : Int)]) ++ szF f' (m - e) e = szF n n e) := ⟨by have := HS.out; rw [szF, if_pos hc] at this; rw [List.append_assoc]; exact this⟩
      go_wp2_with fail
      refine (put_any w wr B gl v l _ HZ.out HB.out hBs hglB (by omega)).mono ?_
      rintro en w2 ⟨rfl, v', hz, hb⟩
      have HZ3 := Aside0.mk hz
      have HB3 := Aside0.mk hb
      clear hz hb
      go_wp2
      go_roundg (gk - 1)
      case measure => omega
      case rel => exact ⟨m - e, f', v', l ++ [(e : Int)], rfl, ⟨by omega, by omega, by omega, by rw [List.length_append, List.length_singleton]; omega⟩, HS2, HZ3, HB3⟩
    · have hcI : ¬ (e : Int) < (m : Int) := by omega
      have HS2 : Aside0 (l ++ [(m : Int)] = szF n n e) := ⟨by have := HS.out; rwa [szF_end _ _ _ hc] at this⟩
      go_wp2_with fail
      refine (put_any w wr B gl v l _ HZ.out HB.out hBs hglB (by omega)).mono ?_
      rintro en w2 ⟨rfl, v', hz, hb⟩
      have HZ3 := Aside0.mk hz
      have HB3 := Aside0.mk hb
      have hcl := (blk_cell hz.cl 0).trans rfl
      clear hz hb
      go_wp2
      go_ret
      rw [HBB.out]
      exact ⟨_, rfl, by rw [← HS2.out]; exact HZ3.out.own, HB3.out⟩
set_option maxHeartbeats 1000000 in
theorem sizes_none (n e : Int) (h : n < 1 ∨ n > 1048576 ∨ e < 1) (w : World) : Calls Try.prog 21 #[.int .i64 n, .int .i64 e] w fun en w' => en = .returned (.slice none 0 0) ∧ Below w.heap.size w w' := by
  by_cases h1 : n < 1
  · clear h
    go_enter Try.func21, Try.ntmps21
    go_wp2
    go_ret
    exact ⟨rfl, Below.refl _ _⟩
  · by_cases h2 : n > 1048576
    · clear h
      go_enter Try.func21, Try.ntmps21
      go_wp2
      go_ret
      exact ⟨rfl, Below.refl _ _⟩
    · have h3 : e < 1 := by omega
      clear h
      go_enter Try.func21, Try.ntmps21
      go_wp2
      go_ret
      exact ⟨rfl, Below.refl _ _⟩
def chunk_Sizes.f (a0 a1 : Int) : Option (List Int) := if a1 ≤ 9223372036854775807 then some (szP a0 a1) else none
theorem chunk_Sizes.calls (a0 a1 : Int) (r : List Int) (w : World) (h : chunk_Sizes.f a0 a1 = some r) : Calls Try.prog 21 #[.int .i64 a0, .int .i64 a1] w fun e w' => ∃ v0_ : Value, e = .returned v0_ ∧ Kd.R (Kd.int .i64) 3 w' w.heap.size (fun _ => True) v0_ r ∧ Below w.heap.size w w' := by
  unfold chunk_Sizes.f at h
  split at h
  · rename_i h4
    obtain rfl := Option.some.inj h
    clear h
    by_cases hc : a0 < 1 ∨ a0 > 1048576 ∨ a1 < 1
    · rw [szP, if_pos hc]
      refine (sizes_none a0 a1 hc w).mono ?_
      rintro e w' ⟨rfl, hb⟩
      exact ⟨_, rfl, Kd.R_nil _ _ _ _ _, hb⟩
    · rw [szP, if_neg hc]
      have h2 := sizes_main a0.toNat a1.toNat (by omega) (by omega) (by omega) (by omega) w
      rw [Int.toNat_of_nonneg (by omega), Int.toNat_of_nonneg (by omega)] at h2
      exact h2
  · cases h
end Go.Proofs.Ytbelgmfhaddhmaa.C
