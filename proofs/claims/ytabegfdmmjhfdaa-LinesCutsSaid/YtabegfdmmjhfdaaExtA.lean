/- The contracts of Lines' methods: see. -/
import Derived.Test.YtabegfdmmjhfdaaProg
import Derived.Test.YtabegfdmmjhfdaaPlain
import Derived.WalkKit
import Derived.WalkSpells
import Derived.WalkLawsBesides
import Derived.KernelRfl
import Derived.Lib.Hide
import Derived.Test.YtabegfdmmjhfdaaWWords
namespace Go.Proofs.Ytabegfdmmjhfdaa.Q
open Go.RowKit Go.Proofs.YtabegfdmmjhfdaaW.PrintWords
open Go.Proofs.Ytabegfdmmjhfdaa.Plain
set_option linter.unusedVariables false

/-- A Lines at block g of W; its row is its own, from block B on. -/
def IsL (W : World) (B g : Nat) (st : St) : Prop := B ≤ g ∧ ∃ lv, W.heap[g]? = some (.cells #[.int .i64 st.left, .int .i64 st.spent, lv, .bool st.within, .bool st.turn, .bool st.whole, .int .i64 st.e] 38 (0, 0)) ∧ W.ownsRow B 5 1 lv st.line.length (nums .u8 st.line)
/-- What its methods leave alone: all but its block and rows of octets. -/
def Eff (g : Nat) (w w' : World) : Prop := w.heap.size ≤ w'.heap.size ∧ ∀ k, k < w.heap.size → k ≠ g → (∀ cs fr, w.heap[k]? ≠ some (.cells cs 5 fr)) → w'.heap[k]? = w.heap[k]?
theorem Eff.refl (g : Nat) (w : World) : Eff g w w := ⟨Nat.le_refl _, fun _ _ _ _ => rfl⟩
theorem Eff.trans {g : Nat} {a b c : World} (h : Eff g a b) (k : Eff g b c) : Eff g a c :=
  ⟨Nat.le_trans h.1 k.1, fun i hi hg ht => by
    have e := h.2 i hi hg ht
    rw [k.2 i (Nat.lt_of_lt_of_le hi h.1) hg (fun cs fr => by rw [e]; exact ht cs fr), e]⟩
theorem Eff.set {g : Nat} {a b : World} (h : Eff g a b) (j : Nat) (u : Value) : Eff g a (b.setCell ⟨g, j, none⟩ u) :=
  h.trans ⟨by simp [World.setCell], fun k hk hg _ => Below.heap_setCell b ⟨g, j, none⟩ u k hg⟩
theorem Eff.alloc {g : Nat} {a b : World} (h : Eff g a b) (o : Obj) : Eff g a (b.alloc o) :=
  h.trans ⟨by simp, fun k hk _ _ => Below.heap_alloc b o k hk⟩
theorem Eff.row {g n : Nat} {a b c : World} {base size : Nat} {v : Value} {xs : List Value} (h : Eff g a b) (hg : b.grownBy c v.ownBlock) (ho : b.ownsRow base 5 size v n xs) : Eff g a c :=
  h.trans ⟨hg.size, fun k hk hne ht => hg.block k hk (fun e => by obtain ⟨cs, hc⟩ := own_typed ho k e.symm; exact ht cs _ hc)⟩
theorem Eff.drew {g : Nat} {a b : World} (h : Eff g a b) : Eff g a b.drew := h

/-- What a walk wants to know of a Lines' block. -/
theorem lines_cells {W : World} {g : Nat} {l s e : Int} {lv : Value} {a b c : Bool} (h : W.heap[g]? = some (.cells #[.int .i64 l, .int .i64 s, lv, .bool a, .bool b, .bool c, .int .i64 e] 38 (0, 0))) :
    W.cell? ⟨g, 0, none⟩ = some (.int .i64 l) ∧ W.cell? ⟨g, 1, none⟩ = some (.int .i64 s) ∧ W.cell? ⟨g, 2, none⟩ = some lv ∧ W.cell? ⟨g, 3, none⟩ = some (.bool a) ∧ W.cell? ⟨g, 4, none⟩ = some (.bool b) ∧ W.cell? ⟨g, 5, none⟩ = some (.bool c) ∧ W.cell? ⟨g, 6, none⟩ = some (.int .i64 e) :=
  ⟨(blk_cell h 0).trans rfl, (blk_cell h 1).trans rfl, (blk_cell h 2).trans rfl, (blk_cell h 3).trans rfl, (blk_cell h 4).trans rfl, (blk_cell h 5).trans rfl, (blk_cell h 6).trans rfl⟩
theorem own_far {w : World} {B n size e : Nat} {v : Value} {xs : List Value} (h : w.ownsRow B e size v n xs) {g t : Nat} {cs : Array Value} (hb : w.heap[g]? = some (.cells cs t (0, 0))) (ht : e ≠ t) (j : Nat) (u : Value) : (w.setCell ⟨g, j, none⟩ u).ownsRow B e size v n xs :=
  own_move h (fun k hk => by
    obtain ⟨cells, hc⟩ := own_typed h k hk
    refine Below.heap_setCell w ⟨g, j, none⟩ u k (fun e2 => ?_)
    have e3 : k = g := e2
    subst e3
    rw [hc] at hb
    injection hb with hb
    injection hb with _ h3
    exact ht h3)

set_option maxHeartbeats 1000000 in
theorem see_long (W : World) (g : Nat) (l s e c : Int) (lv : Value) (a b d : Bool) (h : W.heap[g]? = some (.cells #[.int .i64 l, .int .i64 s, lv, .bool a, .bool b, .bool d, .int .i64 e] 38 (0, 0))) (hl : l = 0) :
    Calls Try.prog 17 #[.pointer (some ⟨g, 0, none⟩), .int .u8 c] W fun e w' => e = .returned (.int .i64 4) ∧ W = w' := by
  subst hl
  obtain ⟨c0, c1, c2, c3, c4, c5, c6⟩ := lines_cells h
  clear h
  go_enter Try.func17, Try.ntmps17
  go_wp2
  go_ret
  exact ⟨rfl, rfl⟩

set_option maxHeartbeats 1000000 in
theorem see_line (W : World) (g : Nat) (l s e c : Int) (lv : Value) (a b d : Bool) (h : W.heap[g]? = some (.cells #[.int .i64 l, .int .i64 s, lv, .bool a, .bool b, .bool d, .int .i64 e] 38 (0, 0))) (hl : l ≠ 0) (hb : b ≠ (c == 10)) :
    Calls Try.prog 17 #[.pointer (some ⟨g, 0, none⟩), .int .u8 c] W fun e w' => e = .returned (.int .i64 8) ∧ W = w' := by
  obtain ⟨c0, c1, c2, c3, c4, c5, c6⟩ := lines_cells h
  clear h
  have hl0 : (l == 0) = false := beq_eq_false_iff_ne.mpr hl
  clear hl
  cases hc : (c == 10) with
  | true =>
    rw [hc] at hb
    obtain rfl : b = false := by cases b <;> simp_all
    clear hb
    go_enter Try.func17, Try.ntmps17
    go_wp2
    go_ret
    exact ⟨rfl, rfl⟩
  | false =>
    rw [hc] at hb
    obtain rfl : b = true := by cases b <;> simp_all
    clear hb
    go_enter Try.func17, Try.ntmps17
    go_wp2
    go_ret
    exact ⟨rfl, rfl⟩

set_option maxHeartbeats 1000000 in
theorem see_cr_walk (W : World) (g : Nat) (l s e : Int) (lv : Value) (a : Bool) (h : W.heap[g]? = some (.cells #[.int .i64 l, .int .i64 s, lv, .bool a, .bool false, .bool false, .int .i64 e] 38 (0, 0))) (hl : 0 < l) (hl1 : l ≤ 65536) (hs : 0 ≤ s) (hs1 : s ≤ 65536) :
    Calls Try.prog 17 #[.pointer (some ⟨g, 0, none⟩), .int .u8 13] W fun e w' => e = .returned (.int .i64 0) ∧ w' = (((W.setCell ⟨g, 4, none⟩ (.bool true)).setCell ⟨g, 0, none⟩ (.int .i64 (l - 1))).setCell ⟨g, 1, none⟩ (.int .i64 (s + 1))).setCell ⟨g, 3, none⟩ (.bool true) := by
  obtain ⟨c0, c1, c2, c3, c4, c5, c6⟩ := lines_cells h
  have f0 := blk_frozen h 0
  have f1 := blk_frozen h 1
  have f3 := blk_frozen h 3
  have f4 := blk_frozen h 4
  clear h
  go_enter Try.func17, Try.ntmps17
  go_wp2
  go_ret
  exact ⟨rfl, rfl⟩
set_option maxHeartbeats 1000000 in
theorem see_lf_walk (W : World) (g : Nat) (l s e : Int) (lv : Value) (a : Bool) (h : W.heap[g]? = some (.cells #[.int .i64 l, .int .i64 s, lv, .bool a, .bool true, .bool false, .int .i64 e] 38 (0, 0))) (hl : 0 < l) (hl1 : l ≤ 65536) (hs : 0 ≤ s) (hs1 : s ≤ 65536) :
    Calls Try.prog 17 #[.pointer (some ⟨g, 0, none⟩), .int .u8 10] W fun e w' => e = .returned (.int .i64 0) ∧ w' = ((((W.setCell ⟨g, 4, none⟩ (.bool false)).setCell ⟨g, 5, none⟩ (.bool true)).setCell ⟨g, 0, none⟩ (.int .i64 (l - 1))).setCell ⟨g, 1, none⟩ (.int .i64 (s + 1))).setCell ⟨g, 3, none⟩ (.bool false) := by
  obtain ⟨c0, c1, c2, c3, c4, c5, c6⟩ := lines_cells h
  have f0 := blk_frozen h 0
  have f1 := blk_frozen h 1
  have f3 := blk_frozen h 3
  have f4 := blk_frozen h 4
  have f5 := blk_frozen h 5
  clear h
  go_enter Try.func17, Try.ntmps17
  go_wp2
  go_ret
  exact ⟨rfl, rfl⟩
theorem own_ne_block {w : World} {B n size e : Nat} {v : Value} {xs : List Value} (h : w.ownsRow B e size v n xs) {g t : Nat} {cs : Array Value} (hb : w.heap[g]? = some (.cells cs t (0, 0))) (ht : e ≠ t) : some g ≠ v.ownBlock := fun hk => by
  obtain ⟨cells, hc⟩ := own_typed h g hk.symm
  rw [hc] at hb
  injection hb with hb
  injection hb with _ h3
  exact ht h3
theorem info5 : (Try.prog.info? 5).map (fun i => (i.zero, i.size, i.bytes)) = some (some (.int .u8 0), 1, 1) := by kernel_rfl

set_option maxHeartbeats 1000000 in
theorem see_oct_walk (W : World) (B g : Nat) (l s e c : Int) (lv : Value) (xs : List Int) (a : Bool) (h : W.heap[g]? = some (.cells #[.int .i64 l, .int .i64 s, lv, .bool a, .bool false, .bool false, .int .i64 e] 38 (0, 0))) (hl : 0 < l) (hl1 : l ≤ 65536) (hs : 0 ≤ s) (hs1 : s ≤ 65536)
    (hown : W.ownsRow B 5 1 lv xs.length (nums .u8 xs)) (hx : xs.length ≤ 65536) (hB : B ≤ W.heap.size) (h13 : c ≠ 13) (h10 : c ≠ 10) :
    Calls Try.prog 17 #[.pointer (some ⟨g, 0, none⟩), .int .u8 c] W fun e w' => e = .returned (.int .i64 0) ∧ ∃ lv' w1, w' = (((w1.setCell ⟨g, 2, none⟩ lv').setCell ⟨g, 0, none⟩ (.int .i64 (l - 1))).setCell ⟨g, 1, none⟩ (.int .i64 (s + 1))).setCell ⟨g, 3, none⟩ (.bool true) ∧
      w1.ownsRow B 5 1 lv' (xs ++ [c]).length (nums .u8 (xs ++ [c])) ∧ (W.alloc (.cells #[.int .u8 c] 5)).grownBy w1 lv.ownBlock := by
  obtain ⟨c0, c1, c2, c3, c4, c5, c6⟩ := lines_cells h
  have f0 := blk_frozen h 0
  have f1 := blk_frozen h 1
  have f2 := blk_frozen h 2
  have f3 := blk_frozen h 3
  have k13 : (c == 13) = false := beq_eq_false_iff_ne.mpr h13
  have k10 : (c == 10) = false := beq_eq_false_iff_ne.mpr h10
  have H := Aside0.mk h
  have HO := Aside0.mk hown
  have hlt := blk_lt h
  clear h hown h13 h10
  obtain ⟨i0, hi, hz0, hz1, hz2⟩ := info_parts info5
  go_enter Try.func17, Try.ntmps17
  go_wp2_with (at_builtin; refine wpList_append_own _ rfl (.tmp 9) (.tmp 11) 36 rfl B 5 i0 (.int .u8 0) 1 1 Try.underlying36 hi hz0 hz1 hz2 rfl (by decide) _ _ _ rfl (HO.out.alloc _) ⟨W.heap.size, 0, none⟩ 1 1 [.int .u8 c] rfl rfl ?c1 ?c2 ?c3 ?c4 ?c5 ?_)
  case c1 => exact cell_one_new _ _ _
  case c2 => intro u hu; simp at hu; subst hu; rfl
  case c3 => unfold maxLen; omega
  case c4 => omega
  case c5 => simp; omega
  intro v' w1 hown' hgrow _
  have hk := blk_grown (blk_alloc H.out _) hgrow (own_ne_block HO.out H.out (by decide))
  have HG := Aside0.mk hgrow
  have HN := Aside0.mk hown'
  clear hgrow hown' c0 c1 c2 c3 c4 c5 c6 f0 f1 f2 f3
  obtain ⟨c0, c1, c2, c3, c4, c5, c6⟩ := lines_cells hk
  have f0 := blk_frozen hk 0
  have f1 := blk_frozen hk 1
  have f2 := blk_frozen hk 2
  have f3 := blk_frozen hk 3
  have hlt1 := blk_lt hk
  clear hk
  obtain ⟨A1, k1, hv⟩ := own_slice HN.out
  rw [hv]
  have HV := Aside0.mk hv
  clear hv
  go_wp2
  go_ret
  refine ⟨rfl, v', w1, by rw [HV.out], ?_, HG.out⟩
  have e1 := HN.out
  rw [List.length_append, List.length_singleton, nums_append]
  exact e1

/-- The method see at whatever a Lines holds that has no line. -/
theorem see_any (W : World) (B g : Nat) (st : St) (c : Int) (hL : IsL W B g st) (ok : Ok st) (hB : B ≤ W.heap.size) (hw : st.whole = false) :
    Calls Try.prog 17 #[.pointer (some ⟨g, 0, none⟩), .int .u8 c] W fun e w' => e = .returned (.int .i64 (see st c).2) ∧ IsL w' B g (see st c).1 ∧ Below B W w' ∧ Eff g W w' := by
  obtain ⟨hg, lv, hb, ho⟩ := hL
  obtain ⟨l0, l1, s0, s1, n⟩ := ok
  rw [hw] at hb
  refine see_all (fun r => Calls Try.prog 17 #[.pointer (some ⟨g, 0, none⟩), .int .u8 c] W fun e w' => e = .returned (.int .i64 r.2) ∧ IsL w' B g r.1 ∧ Below B W w' ∧ Eff g W w') st c ?_ ?_ ?_ ?_ ?_
  · intro h
    refine (see_long W g _ _ _ c lv _ _ _ hb h).mono ?_
    rintro e w' ⟨rfl, rfl⟩
    exact ⟨rfl, ⟨hg, lv, by rw [hw]; exact hb, ho⟩, Below.refl _ _, Eff.refl _ _⟩
  · intro h h2
    refine (see_line W g _ _ _ c lv _ _ _ hb h h2).mono ?_
    rintro e w' ⟨rfl, rfl⟩
    exact ⟨rfl, ⟨hg, lv, by rw [hw]; exact hb, ho⟩, Below.refl _ _, Eff.refl _ _⟩
  · intro h h2 h3
    subst h3
    rw [h2] at hb
    refine (see_cr_walk W g _ _ _ lv _ hb (by omega) (by omega) (by omega) (by omega)).mono ?_
    rintro e w' ⟨rfl, rfl⟩
    refine ⟨rfl, ⟨hg, lv, ?_, ?_⟩, ?_, ?_⟩
    · have := blk_set (blk_set (blk_set (blk_set hb 4 (.bool true)) 0 (.int .i64 (st.left - 1))) 1 (.int .i64 (st.spent + 1))) 3 (.bool true)
      simpa [St.step, hw] using this
    · exact own_far (own_far (own_far (own_far ho hb (by decide) 4 _) (blk_set hb 4 _) (by decide) 0 _) (blk_set (blk_set hb 4 _) 0 _) (by decide) 1 _) (blk_set (blk_set (blk_set hb 4 _) 0 _) 1 _) (by decide) 3 _
    · exact ((((Below.refl _ _).setCell hg _).setCell hg _).setCell hg _).setCell hg _
    · exact (((((Eff.refl g W).set 4 _).set 0 _).set 1 _).set 3 _)
  · intro h h2 h3
    subst h3
    rw [h2] at hb
    refine (see_lf_walk W g _ _ _ lv _ hb (by omega) (by omega) (by omega) (by omega)).mono ?_
    rintro e w' ⟨rfl, rfl⟩
    refine ⟨rfl, ⟨hg, lv, ?_, ?_⟩, ?_, ?_⟩
    · have := blk_set (blk_set (blk_set (blk_set (blk_set hb 4 (.bool false)) 5 (.bool true)) 0 (.int .i64 (st.left - 1))) 1 (.int .i64 (st.spent + 1))) 3 (.bool false)
      simpa [St.step] using this
    · exact own_far (own_far (own_far (own_far (own_far ho hb (by decide) 4 _) (blk_set hb 4 _) (by decide) 5 _) (blk_set (blk_set hb 4 _) 5 _) (by decide) 0 _) (blk_set (blk_set (blk_set hb 4 _) 5 _) 0 _) (by decide) 1 _) (blk_set (blk_set (blk_set (blk_set hb 4 _) 5 _) 0 _) 1 _) (by decide) 3 _
    · exact (((((Below.refl _ _).setCell hg _).setCell hg _).setCell hg _).setCell hg _).setCell hg _
    · exact ((((((Eff.refl g W).set 4 _).set 5 _).set 0 _).set 1 _).set 3 _)
  · intro h h2 h3 h4
    rw [h2] at hb
    refine (see_oct_walk W B g _ _ _ c lv _ _ hb (by omega) (by omega) (by omega) (by omega) ho (by omega) hB h3 h4).mono ?_
    rintro e w' ⟨rfl, lv', w1, rfl, ho1, hgr⟩
    have hb1 := blk_grown (blk_alloc hb _) hgr (own_ne_block ho hb (by decide))
    refine ⟨rfl, ⟨hg, lv', ?_, ?_⟩, ?_, ?_⟩
    · have := blk_set (blk_set (blk_set (blk_set hb1 2 lv') 0 (.int .i64 (st.left - 1))) 1 (.int .i64 (st.spent + 1))) 3 (.bool true)
      simpa [St.step, hw, h2] using this
    · exact own_far (own_far (own_far (own_far ho1 hb1 (by decide) 2 _) (blk_set hb1 2 _) (by decide) 0 _) (blk_set (blk_set hb1 2 _) 0 _) (by decide) 1 _) (blk_set (blk_set (blk_set hb1 2 _) 0 _) 1 _) (by decide) 3 _
    · have e1 : Below B W w1 := ((Below.refl B W).alloc hB _).grown hgr (by simp; omega) (own_base ho)
      exact ((((e1.setCell hg _).setCell hg _).setCell hg _).setCell hg _)
    · have e1 : Eff g W w1 := ((Eff.refl g W).alloc _).row hgr (ho.alloc _)
      exact ((((e1.set 2 _).set 0 _).set 1 _).set 3 _)
end Go.Proofs.Ytabegfdmmjhfdaa.Q
