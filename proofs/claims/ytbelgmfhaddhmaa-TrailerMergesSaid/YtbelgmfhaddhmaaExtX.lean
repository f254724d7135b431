/- The contracts of trailer.Keep and trailer.Merge. -/
import Derived.Test.YtbelgmfhaddhmaaExtW
namespace Go.Proofs.Ytbelgmfhaddhmaa.T
open Go.RowKit Go.Proofs.YtbelgmfhaddhmaaW.PrintWords Go.Proofs.YtbelgmfhaddhmaaW.PrintLast Go.Proofs.YtbelgmfhaddhmaaW.PrintMore Go.Proofs.Ytbelgmfhaddhmaa.Q Go.Proofs.Ytbelgmfhaddhmaa.Pure
set_option linter.unusedVariables false
set_option linter.unusedSimpArgs false
set_option maxHeartbeats 1000000 in
theorem f85_any (a b : ByteArray) (w : World) : Calls Try.prog 85 #[.agg #[.string a, .string b]] w fun e w' => e = .returned (.bool (allowedB a)) ∧ Below w.heap.size w w' := by
  have HBA : Aside0 (Below w.heap.size w (w.alloc (.cells #[.string a, .string b] 44 (0, 0)))) := ⟨below_alloc (Below.refl _ _) _⟩
  go_enter Try.func85, Try.ntmps85
  go_wp2_with fail
  refine (allowed_any a _).mono ?_
  rintro e w1 ⟨rfl, hb⟩
  have HB1 := Aside0.mk (below_step HBA.out hb)
  clear hb
  go_wp2
  go_ret
  exact ⟨rfl, HB1.out⟩
set_option maxHeartbeats 1000000 in
theorem f86_any (a b : ByteArray) (w : World) : Calls Try.prog 86 #[.agg #[.string a, .string b]] w fun e w' => e = .returned (.bool true) ∧ Below w.heap.size w w' := by
  have HBA : Aside0 (Below w.heap.size w (w.alloc (.cells #[.string a, .string b] 44 (0, 0)))) := ⟨below_alloc (Below.refl _ _) _⟩
  go_enter Try.func86, Try.ntmps86
  go_wp2
  go_ret
  exact ⟨rfl, HBA.out⟩
/-- What Merge's last function holds. -/
structure Holds (w : World) (gl : Nat) (A : Option Addr) (c : Nat) (l : List S44) : Prop where
  cl : w.heap[gl]? = some (.cells #[.slice A l.length c] 37 (0, 0))
  rd : Kd.C k44 w A l.length l
theorem Holds.below {w w' : World} {gl : Nat} {A : Option Addr} {c : Nat} {l : List S44} (h : Holds w gl A c l) (hb : Below w.heap.size w w') : Holds w' gl A c l := ⟨blk_below h.cl hb, Kd.C_below h.rd hb⟩
/-- Has no field the name? -/
def freeB (l : List S44) (a : ByteArray) : Bool := ((ofName a l).length : Int) == 0
set_option maxHeartbeats 1000000 in
theorem f87_any (a b : ByteArray) (gl : Nat) (A : Option Addr) (c : Nat) (l : List S44) (w : World) (ha : a.size ≤ 140737488351232) (hl : l.length ≤ 1000000) (hc : l.length ≤ c) (h : Holds w gl A c l) : Calls Try.prog 87 #[.agg #[.string a, .string b], .pointer (some ⟨gl, 0, none⟩)] w fun e w' => e = .returned (.bool (freeB l a)) ∧ Below w.heap.size w w' := by
  have hba : Below w.heap.size w (w.alloc (.cells #[.string a, .string b] 44 (0, 0))) := below_alloc (Below.refl _ _) _
  have HH := Aside0.mk (h.below hba)
  have HBA := Aside0.mk hba
  have hcl := (blk_cell HH.out.cl 0).trans rfl
  have HC : Aside0 (∀ w, Kd.C k44 w A l.length l → Calls Try.prog 47 #[.slice A l.length c, .string a] w fun e w' => e = .returned (.int .i64 ((ofName a l).length : Int)) ∧ Below w.heap.size w w') := ⟨fun w hr => header_Count.calls A c l a _ w hr hc (by rw [header_Count.f, if_pos ⟨hl, ha⟩])⟩
  clear hba h ha hc
  go_enter Try.func87, Try.ntmps87
  go_wp2_with fail
  refine (HC.out _ HH.out.rd).mono ?_
  rintro e w1 ⟨rfl, hb⟩
  have HB1 := Aside0.mk (below_step HBA.out hb)
  clear hb hcl
  go_wp2
  go_ret
  exact ⟨rfl, HB1.out⟩
set_option maxHeartbeats 4000000 in
set_option maxRecDepth 100000 in
theorem only85  (A : Option Addr) (c : Nat) (l : List S44) (w : World)  (hr : Kd.C k44 w A l.length l) (hc : l.length ≤ c) (hl : l.length ≤ 1000000) : Calls Try.prog 84 #[.slice A l.length c, .func (.func 85) #[] #[]] w fun e w' => ∃ v, e = .returned v ∧ Kd.R k44 44 w' w.heap.size (fun _ => True) v (l.filter fun p => allowedB p.f0) ∧ Below w.heap.size w w' := by
  have HR := Aside0.mk hr
  have HC := Aside0.mk hc
  clear hr hc
  go_enter Try.func84, Try.ntmps84
  go_wp2
  go_loopg [5, 9] l.length (fun k v5 v9 wr => ∃ (i : Nat) (v : Value), v5 = v ∧ v9 = .int .i64 (i : Int) ∧ Aside0 (i ≤ l.length ∧ l.length - i ≤ k) ∧ Aside0 (Kd.R k44 44 wr w.heap.size (fun _ => True) v ((l.take i).filter fun p => allowedB p.f0)) ∧ Aside0 (Below w.heap.size w wr))
  case atStart => exact ⟨0, _, rfl, rfl, ⟨by omega⟩, ⟨Kd.R_nil _ _ _ _ _⟩, ⟨Below.refl _ _⟩⟩
  case round =>
    obtain ⟨i, v, rfl, rfl, HI, HO, HB⟩ := hrel
    obtain ⟨hi0, hk⟩ := HI.out
    obtain ⟨xs, hxs⟩ : ∃ xs, xs = ((l.take i).filter fun p => allowedB p.f0) := ⟨_, rfl⟩
    have hml : xs.length ≤ i := by
      rw [hxs]
      exact Nat.le_trans (List.length_filter_le _ _) (by rw [List.length_take]; omega)
    have HXS := Lib.hid hxs
    rw [← hxs] at HO
    clear hxs
    obtain ⟨Ao, co, hvo⟩ := Kd.R_slice HO.out
    subst hvo
    by_cases hi : i < l.length
    · have hiI : (i : Int) < (l.length : Int) := by omega
      obtain ⟨p, hp⟩ : ∃ p, p = rd_T44 l (i : Int) := ⟨_, rfl⟩
      have hpl : p = l[i] := by rw [hp]; simp [rd_T44, List.getD_eq_getElem?_getD, List.getElem?_eq_getElem hi]
      have HTK : Aside0 (l.take (i + 1) = l.take i ++ [p]) := ⟨by rw [hpl]; exact List.take_succ_eq_append_getElem hi⟩
      have HRW := Aside0.mk (Kd.C_below HR.out HB.out)
      obtain ⟨ad, rfl, hx0, hx1⟩ := at_T44 HRW.out (i : Int) (by omega) hiI
      rw [← hp, Int.toNat_natCast] at hx0 hx1
      clear hp hpl
      go_wp2_with fail
      refine (f85_any p.f0 p.f1 _).mono ?_
      rintro e w3 ⟨rfl, hb⟩
      have HB3 := Aside0.mk (below_step HB.out hb)
      have hBs3 : w.heap.size ≤ w3.heap.size := HB3.out.size
      have HO3 := Aside0.mk (Kd.R_below HO.out hb)
      obtain ⟨ad', had, hy0, hy1⟩ := at_T44 (Kd.C_below HRW.out hb) (i : Int) (by omega) hiI
      obtain rfl : ad = ad' := by injection had
      clear had hx0 hx1 hb
      have hlen : (xs.length + 1) * 32 ≤ 140737488355328 := by omega
      cases hf : allowedB p.f0 with
      | true =>
        have HE : Hid (((l.take (i + 1)).filter fun p => allowedB p.f0) = xs ++ [p]) := Lib.hid (by
          rw [HXS.out, HTK.out, List.filter_append, List.filter_cons, if_pos hf, List.filter_nil])
        have HPI : Aside0 (p = rd_T44 l (i : Int)) := ⟨by simp only [rd_T44]; have := HTK.out; rw [Int.toNat_natCast, List.getD_eq_getElem?_getD, List.getElem?_eq_getElem hi]; rw [List.take_succ_eq_append_getElem hi] at this; simpa using (List.append_cancel_left this).symm⟩
        rw [← HPI.out, Int.toNat_natCast] at hy0 hy1
        clear hf
        go_wp2_with (at_builtin; refine Kd.R_append k44 (w0 := w) w.heap.size rfl (.tmp 18) (.tmp 23) 37 44 (.agg #[(.string ⟨#[]⟩), (.string ⟨#[]⟩)]) 32 rfl Try.underlying37 info44 rfl (by decide) (by omega) _ xs p [.string p.f0, .string p.f1] (fun _ => True) (fun _ => False) rfl rfl (k44_mkM _ _ _ p) (fun _ hk => hk.elim) (fun _ _ => trivial) HO3.out HB3.out hBs3 hlen ?_)
        intro v1 w4 hown hB4 hgr hat
        rw [← HE.out] at hown
        have HO4 := Aside0.mk hown
        have HB4 := Aside0.mk hB4
        clear hown hB4 hgr hat
        go_wp2
        go_roundg (gk - 1)
        case measure => omega
        case rel => exact ⟨i + 1, _, rfl, rfl, ⟨by omega⟩, HO4, HB4⟩
      | false =>
        have HE : Hid (((l.take (i + 1)).filter fun p => allowedB p.f0) = xs) := Lib.hid (by
          rw [HXS.out, HTK.out, List.filter_append, List.filter_cons, if_neg (by rw [hf]; decide), List.filter_nil, List.append_nil])
        clear hf hy0 hy1
        go_wp2
        go_roundg (gk - 1)
        case measure => omega
        case rel => exact ⟨i + 1, _, rfl, rfl, ⟨by omega⟩, by rw [HE.out]; exact HO3, HB3⟩
    · have hiI : ¬ (i : Int) < (l.length : Int) := by omega
      have HFX : Hid (xs = (l.filter fun p => allowedB p.f0)) := Lib.hid (by rw [HXS.out, List.take_of_length_le (show l.length ≤ i by omega)])
      go_wp2
      go_ret
      exact ⟨_, rfl, by rw [← HFX.out]; exact HO.out, HB.out⟩
set_option maxHeartbeats 4000000 in
set_option maxRecDepth 100000 in
theorem only86  (A : Option Addr) (c : Nat) (l : List S44) (w : World)  (hr : Kd.C k44 w A l.length l) (hc : l.length ≤ c) (hl : l.length ≤ 1000000) : Calls Try.prog 84 #[.slice A l.length c, .func (.func 86) #[] #[]] w fun e w' => ∃ v, e = .returned v ∧ Kd.R k44 44 w' w.heap.size (fun _ => True) v (l.filter fun p => true) ∧ Below w.heap.size w w' := by
  have HR := Aside0.mk hr
  have HC := Aside0.mk hc
  clear hr hc
  go_enter Try.func84, Try.ntmps84
  go_wp2
  go_loopg [5, 9] l.length (fun k v5 v9 wr => ∃ (i : Nat) (v : Value), v5 = v ∧ v9 = .int .i64 (i : Int) ∧ Aside0 (i ≤ l.length ∧ l.length - i ≤ k) ∧ Aside0 (Kd.R k44 44 wr w.heap.size (fun _ => True) v ((l.take i).filter fun p => true)) ∧ Aside0 (Below w.heap.size w wr))
  case atStart => exact ⟨0, _, rfl, rfl, ⟨by omega⟩, ⟨Kd.R_nil _ _ _ _ _⟩, ⟨Below.refl _ _⟩⟩
  case round =>
    obtain ⟨i, v, rfl, rfl, HI, HO, HB⟩ := hrel
    obtain ⟨hi0, hk⟩ := HI.out
    obtain ⟨xs, hxs⟩ : ∃ xs, xs = ((l.take i).filter fun p => true) := ⟨_, rfl⟩
    have hml : xs.length ≤ i := by
      rw [hxs]
      exact Nat.le_trans (List.length_filter_le _ _) (by rw [List.length_take]; omega)
    have HXS := Lib.hid hxs
    rw [← hxs] at HO
    clear hxs
    obtain ⟨Ao, co, hvo⟩ := Kd.R_slice HO.out
    subst hvo
    by_cases hi : i < l.length
    · have hiI : (i : Int) < (l.length : Int) := by omega
      obtain ⟨p, hp⟩ : ∃ p, p = rd_T44 l (i : Int) := ⟨_, rfl⟩
      have hpl : p = l[i] := by rw [hp]; simp [rd_T44, List.getD_eq_getElem?_getD, List.getElem?_eq_getElem hi]
      have HTK : Aside0 (l.take (i + 1) = l.take i ++ [p]) := ⟨by rw [hpl]; exact List.take_succ_eq_append_getElem hi⟩
      have HRW := Aside0.mk (Kd.C_below HR.out HB.out)
      obtain ⟨ad, rfl, hx0, hx1⟩ := at_T44 HRW.out (i : Int) (by omega) hiI
      rw [← hp, Int.toNat_natCast] at hx0 hx1
      clear hp hpl
      go_wp2_with fail
      refine (f86_any p.f0 p.f1 _).mono ?_
      rintro e w3 ⟨rfl, hb⟩
      have HB3 := Aside0.mk (below_step HB.out hb)
      have hBs3 : w.heap.size ≤ w3.heap.size := HB3.out.size
      have HO3 := Aside0.mk (Kd.R_below HO.out hb)
      obtain ⟨ad', had, hy0, hy1⟩ := at_T44 (Kd.C_below HRW.out hb) (i : Int) (by omega) hiI
      obtain rfl : ad = ad' := by injection had
      clear had hx0 hx1 hb
      have hlen : (xs.length + 1) * 32 ≤ 140737488355328 := by omega
      have hf : true = true := rfl
      · -- always
        have HE : Hid (((l.take (i + 1)).filter fun p => true) = xs ++ [p]) := Lib.hid (by
          rw [HXS.out, HTK.out, List.filter_append, List.filter_cons, if_pos hf, List.filter_nil])
        have HPI : Aside0 (p = rd_T44 l (i : Int)) := ⟨by simp only [rd_T44]; have := HTK.out; rw [Int.toNat_natCast, List.getD_eq_getElem?_getD, List.getElem?_eq_getElem hi]; rw [List.take_succ_eq_append_getElem hi] at this; simpa using (List.append_cancel_left this).symm⟩
        rw [← HPI.out, Int.toNat_natCast] at hy0 hy1
        clear hf
        go_wp2_with (at_builtin; refine Kd.R_append k44 (w0 := w) w.heap.size rfl (.tmp 18) (.tmp 23) 37 44 (.agg #[(.string ⟨#[]⟩), (.string ⟨#[]⟩)]) 32 rfl Try.underlying37 info44 rfl (by decide) (by omega) _ xs p [.string p.f0, .string p.f1] (fun _ => True) (fun _ => False) rfl rfl (k44_mkM _ _ _ p) (fun _ hk => hk.elim) (fun _ _ => trivial) HO3.out HB3.out hBs3 hlen ?_)
        intro v1 w4 hown hB4 hgr hat
        rw [← HE.out] at hown
        have HO4 := Aside0.mk hown
        have HB4 := Aside0.mk hB4
        clear hown hB4 hgr hat
        go_wp2
        go_roundg (gk - 1)
        case measure => omega
        case rel => exact ⟨i + 1, _, rfl, rfl, ⟨by omega⟩, HO4, HB4⟩
    · have hiI : ¬ (i : Int) < (l.length : Int) := by omega
      have HFX : Hid (xs = (l.filter fun p => true)) := Lib.hid (by rw [HXS.out, List.take_of_length_le (show l.length ≤ i by omega)])
      go_wp2
      go_ret
      exact ⟨_, rfl, by rw [← HFX.out]; exact HO.out, HB.out⟩
set_option maxHeartbeats 4000000 in
set_option maxRecDepth 100000 in
theorem only87 (gl : Nat) (A0 : Option Addr) (c0 : Nat) (l0 : List S44) (A : Option Addr) (c : Nat) (l : List S44) (w : World) (hh : Holds w gl A0 c0 l0) (hc0 : l0.length ≤ c0) (hl0 : l0.length ≤ 1000000) (hsm : ∀ p ∈ l, p.f0.size ≤ 140737488351232) (hr : Kd.C k44 w A l.length l) (hc : l.length ≤ c) (hl : l.length ≤ 1000000) : Calls Try.prog 84 #[.slice A l.length c, .func (.func 87) #[] #[.pointer (some ⟨gl, 0, none⟩)]] w fun e w' => ∃ v, e = .returned v ∧ Kd.R k44 44 w' w.heap.size (fun _ => True) v (l.filter fun p => freeB l0 p.f0) ∧ Below w.heap.size w w' := by
  have HR := Aside0.mk hr
  have HC := Aside0.mk hc
  have HH := Aside0.mk hh
  have HC0 := Aside0.mk hc0
  have HSM := Aside0.mk hsm
  clear hh hc0 hsm
  clear hr hc
  go_enter Try.func84, Try.ntmps84
  go_wp2
  go_loopg [5, 9] l.length (fun k v5 v9 wr => ∃ (i : Nat) (v : Value), v5 = v ∧ v9 = .int .i64 (i : Int) ∧ Aside0 (i ≤ l.length ∧ l.length - i ≤ k) ∧ Aside0 (Kd.R k44 44 wr w.heap.size (fun _ => True) v ((l.take i).filter fun p => freeB l0 p.f0)) ∧ Aside0 (Below w.heap.size w wr))
  case atStart => exact ⟨0, _, rfl, rfl, ⟨by omega⟩, ⟨Kd.R_nil _ _ _ _ _⟩, ⟨Below.refl _ _⟩⟩
  case round =>
    obtain ⟨i, v, rfl, rfl, HI, HO, HB⟩ := hrel
    obtain ⟨hi0, hk⟩ := HI.out
    obtain ⟨xs, hxs⟩ : ∃ xs, xs = ((l.take i).filter fun p => freeB l0 p.f0) := ⟨_, rfl⟩
    have hml : xs.length ≤ i := by
      rw [hxs]
      exact Nat.le_trans (List.length_filter_le _ _) (by rw [List.length_take]; omega)
    have HXS := Lib.hid hxs
    rw [← hxs] at HO
    clear hxs
    obtain ⟨Ao, co, hvo⟩ := Kd.R_slice HO.out
    subst hvo
    by_cases hi : i < l.length
    · have hiI : (i : Int) < (l.length : Int) := by omega
      obtain ⟨p, hp⟩ : ∃ p, p = rd_T44 l (i : Int) := ⟨_, rfl⟩
      have hpl : p = l[i] := by rw [hp]; simp [rd_T44, List.getD_eq_getElem?_getD, List.getElem?_eq_getElem hi]
      have HPS := Aside0.mk (HSM.out p (by rw [hpl]; exact List.getElem_mem hi))
      have HTK : Aside0 (l.take (i + 1) = l.take i ++ [p]) := ⟨by rw [hpl]; exact List.take_succ_eq_append_getElem hi⟩
      have HRW := Aside0.mk (Kd.C_below HR.out HB.out)
      obtain ⟨ad, rfl, hx0, hx1⟩ := at_T44 HRW.out (i : Int) (by omega) hiI
      rw [← hp, Int.toNat_natCast] at hx0 hx1
      clear hp hpl
      go_wp2_with fail
      refine (f87_any p.f0 p.f1 gl A0 c0 l0 _ HPS.out hl0 HC0.out (HH.out.below HB.out)).mono ?_
      rintro e w3 ⟨rfl, hb⟩
      have HB3 := Aside0.mk (below_step HB.out hb)
      have hBs3 : w.heap.size ≤ w3.heap.size := HB3.out.size
      have HO3 := Aside0.mk (Kd.R_below HO.out hb)
      obtain ⟨ad', had, hy0, hy1⟩ := at_T44 (Kd.C_below HRW.out hb) (i : Int) (by omega) hiI
      obtain rfl : ad = ad' := by injection had
      clear had hx0 hx1 hb
      have hlen : (xs.length + 1) * 32 ≤ 140737488355328 := by omega
      cases hf : freeB l0 p.f0 with
      | true =>
        have HE : Hid (((l.take (i + 1)).filter fun p => freeB l0 p.f0) = xs ++ [p]) := Lib.hid (by
          rw [HXS.out, HTK.out, List.filter_append, List.filter_cons, if_pos hf, List.filter_nil])
        have HPI : Aside0 (p = rd_T44 l (i : Int)) := ⟨by simp only [rd_T44]; have := HTK.out; rw [Int.toNat_natCast, List.getD_eq_getElem?_getD, List.getElem?_eq_getElem hi]; rw [List.take_succ_eq_append_getElem hi] at this; simpa using (List.append_cancel_left this).symm⟩
        rw [← HPI.out, Int.toNat_natCast] at hy0 hy1
        clear hf
        go_wp2_with (at_builtin; refine Kd.R_append k44 (w0 := w) w.heap.size rfl (.tmp 18) (.tmp 23) 37 44 (.agg #[(.string ⟨#[]⟩), (.string ⟨#[]⟩)]) 32 rfl Try.underlying37 info44 rfl (by decide) (by omega) _ xs p [.string p.f0, .string p.f1] (fun _ => True) (fun _ => False) rfl rfl (k44_mkM _ _ _ p) (fun _ hk => hk.elim) (fun _ _ => trivial) HO3.out HB3.out hBs3 hlen ?_)
        intro v1 w4 hown hB4 hgr hat
        rw [← HE.out] at hown
        have HO4 := Aside0.mk hown
        have HB4 := Aside0.mk hB4
        clear hown hB4 hgr hat
        go_wp2
        go_roundg (gk - 1)
        case measure => omega
        case rel => exact ⟨i + 1, _, rfl, rfl, ⟨by omega⟩, HO4, HB4⟩
      | false =>
        have HE : Hid (((l.take (i + 1)).filter fun p => freeB l0 p.f0) = xs) := Lib.hid (by
          rw [HXS.out, HTK.out, List.filter_append, List.filter_cons, if_neg (by rw [hf]; decide), List.filter_nil, List.append_nil])
        clear hf hy0 hy1
        go_wp2
        go_roundg (gk - 1)
        case measure => omega
        case rel => exact ⟨i + 1, _, rfl, rfl, ⟨by omega⟩, by rw [HE.out]; exact HO3, HB3⟩
    · have hiI : ¬ (i : Int) < (l.length : Int) := by omega
      have HFX : Hid (xs = (l.filter fun p => freeB l0 p.f0)) := Lib.hid (by rw [HXS.out, List.take_of_length_le (show l.length ≤ i by omega)])
      go_wp2
      go_ret
      exact ⟨_, rfl, by rw [← HFX.out]; exact HO.out, HB.out⟩
/-- The fields that may be. -/
def keepL (l : List S44) : List S44 := l.filter fun p => allowedB p.f0
set_option maxHeartbeats 1000000 in
theorem keep_any (A : Option Addr) (c : Nat) (l : List S44) (w : World) (hr : Kd.C k44 w A l.length l) (hc : l.length ≤ c) (hl : l.length ≤ 1000000) : Calls Try.prog 43 #[.slice A l.length c] w fun e w' => ∃ v, e = .returned v ∧ Kd.R k44 44 w' w.heap.size (fun _ => True) v (keepL l) ∧ Below w.heap.size w w' := by
  have HC := Aside0.mk (only85 A c l w hr hc hl)
  clear hr hc
  go_enter Try.func43, Try.ntmps43
  go_wp2_with fail
  refine HC.out.mono ?_
  rintro e w1 ⟨v, rfl, ho, hb⟩
  have HO := Aside0.mk ho
  have HB := Aside0.mk hb
  clear ho hb
  go_wp2
  go_ret
  exact ⟨_, rfl, HO.out, HB.out⟩
def trailer_Keep.f (l0 : List S44) : Option (List S44) := if l0.length ≤ 1000000 then some (keepL l0) else none
theorem trailer_Keep.calls (A0 : Option Addr) (c0 : Nat) (l0 : List S44) (r : List S44) (w : World) (hr0 : Kd.C k44 w A0 l0.length l0) (hc0 : l0.length ≤ c0) (h : trailer_Keep.f l0 = some r) : Calls Try.prog 43 #[.slice A0 l0.length c0] w fun e w' => ∃ v0_ : Value, e = .returned v0_ ∧ Kd.R k44 44 w' w.heap.size (fun _ => True) v0_ r ∧ Below w.heap.size w w' := by
  unfold trailer_Keep.f at h
  split at h
  · rename_i hs
    obtain rfl := Option.some.inj h
    exact keep_any A0 c0 l0 w hr0 hc0 hs
  · cases h
/-- The fields with those joined to them. -/
def mergeL (l t : List S44) : List S44 := l ++ (keepL t).filter fun p => freeB l p.f0
set_option maxHeartbeats 4000000 in
theorem merge_any (A : Option Addr) (c : Nat) (l : List S44) (A1 : Option Addr) (c1 : Nat) (t : List S44) (w : World) (hr : Kd.C k44 w A l.length l) (hc : l.length ≤ c) (hl : l.length ≤ 1000000) (hr1 : Kd.C k44 w A1 t.length t) (hc1 : t.length ≤ c1) (hl1 : t.length ≤ 1000000) (hsm : ∀ p ∈ t, p.f0.size ≤ 140737488351232) : Calls Try.prog 45 #[.slice A l.length c, .slice A1 t.length c1] w fun e w' => ∃ v, e = .returned v ∧ Kd.R k44 44 w' w.heap.size (fun _ => True) v (mergeL l t) ∧ Below w.heap.size w w' := by
  obtain ⟨z1, hz1⟩ : ∃ z1, w.alloc (.cells #[.slice A l.length c] 37 (0, 0)) = z1 := ⟨_, rfl⟩
  obtain ⟨gl, hgl⟩ : ∃ gl, w.heap.size = gl := ⟨_, rfl⟩
  have hb1 : Below w.heap.size w z1 := by rw [← hz1]; exact below_alloc (Below.refl _ _) _
  have HH1 : Aside0 (Holds z1 gl A c l) := ⟨⟨by rw [← hz1, ← hgl]; exact blk_new _ _, Kd.C_below hr hb1⟩⟩
  have HB1 := Aside0.mk hb1
  have HT1 := Aside0.mk (Kd.C_below hr1 hb1)
  have HC := Aside0.mk hc
  have HC1 := Aside0.mk hc1
  have HSM := Aside0.mk hsm
  have hkl : (keepL t).length ≤ 1000000 := Nat.le_trans (List.length_filter_le _ _) hl1
  have HKS : Aside0 (∀ p ∈ keepL t, p.f0.size ≤ 140737488351232) := ⟨fun p hp => HSM.out p (List.mem_filter.1 hp).1⟩
  obtain ⟨kl, hkle⟩ : ∃ kl, kl = keepL t := ⟨_, rfl⟩
  have HKE := Lib.hid hkle
  rw [← hkle] at hkl HKS
  obtain ⟨ml, hmle⟩ : ∃ ml, ml = (kl.filter fun p => freeB l p.f0) := ⟨_, rfl⟩
  have HME := Lib.hid hmle
  have hml : ml.length ≤ 1000000 := by rw [hmle]; exact Nat.le_trans (List.length_filter_le _ _) hkl
  have HRES : Hid (mergeL l t = l ++ ml) := Lib.hid (by rw [mergeL, hmle, hkle])
  have hcl := (blk_cell HH1.out.cl 0).trans rfl
  clear hr hc hr1 hc1 hsm hb1 hkle hmle
  go_enter Try.func45, Try.ntmps45
  go_wp2_with fail
  clear hz1
  have hO1 := only86 A c l z1 HH1.out.rd HC.out hl
  rw [show (l.filter fun p => true) = l from List.filter_eq_self.2 (fun _ _ => rfl)] at hO1
  refine hO1.mono ?_
  rintro e w2 ⟨v1, rfl, ho, hb⟩
  have HB2 := Aside0.mk (below_step HB1.out hb)
  have HO2 := Aside0.mk (Kd.R_lower ho HB1.out.size)
  have HH2 := Aside0.mk (HH1.out.below hb)
  have HT2 := Aside0.mk (Kd.C_below HT1.out hb)
  clear ho hb hcl hO1
  go_wp2_with fail
  refine (keep_any A1 c1 t w2 HT2.out HC1.out hl1).mono ?_
  rintro e w3 ⟨v2, rfl, ho, hb⟩
  rw [← HKE.out] at ho
  obtain ⟨A2, c2, hv2, hcc2, hr2⟩ := Kd.R_reads ho
  subst hv2
  have HB3 := Aside0.mk (below_step HB2.out hb)
  have HO3 := Aside0.mk (Kd.R_below HO2.out hb)
  have HH3 := Aside0.mk (HH2.out.below hb)
  have HR3 := Aside0.mk hr2
  have HCC := Aside0.mk hcc2
  clear ho hb hr2 hcc2
  go_wp2_with fail
  refine (only87 gl A c l A2 c2 kl w3 HH3.out HC.out hl HKS.out HR3.out HCC.out hkl).mono ?_
  rintro e w4 ⟨v3, rfl, ho, hb⟩
  rw [← HME.out] at ho
  obtain ⟨A3, c3, hv3, hcc3, hr3⟩ := Kd.R_reads ho
  subst hv3
  have HB4 := Aside0.mk (below_step HB3.out hb)
  have HO4 := Aside0.mk (Kd.R_below HO3.out hb)
  have HR4 := Aside0.mk hr3
  have hBs4 : w.heap.size ≤ w4.heap.size := HB4.out.size
  have hlen : (l.length + ml.length) * 32 ≤ 140737488355328 := by omega
  clear ho hb hr3
  obtain ⟨Ax, cx, hvx⟩ := Kd.R_slice HO4.out
  subst hvx
  go_wp2_with (at_builtin; refine Kd.R_append_rows k44 (w0 := w) w.heap.size rfl (.tmp 8) (.tmp 12) 37 44 (.agg #[(.string ⟨#[]⟩), (.string ⟨#[]⟩)]) 32 rfl Try.underlying37 info44 rfl (by decide) (by omega) _ l ml _ _ _ (fun _ => True) (fun _ => False) rfl rfl HO4.out HR4.out (fun _ _ h => h) (fun _ h => h.elim) (fun _ _ => trivial) HB4.out hBs4 hlen ?_)
  intro v5 w5 hown hB5 hgr hat
  rw [← HRES.out] at hown
  have HO5 := Aside0.mk hown
  have HB5 := Aside0.mk hB5
  clear hown hB5 hgr hat
  go_wp2
  go_ret
  rw [hgl]
  exact ⟨_, rfl, HO5.out, HB5.out⟩
def smallB (l : List S44) : Bool := l.all fun p => decide (p.f0.size ≤ 140737488351232)
def trailer_Merge.f (l0 l1 : List S44) : Option (List S44) := if l0.length ≤ 1000000 ∧ l1.length ≤ 1000000 ∧ smallB l1 = true then some (mergeL l0 l1) else none
theorem trailer_Merge.calls (A0 : Option Addr) (c0 : Nat) (l0 : List S44) (A1 : Option Addr) (c1 : Nat) (l1 : List S44) (r : List S44) (w : World) (hr0 : Kd.C k44 w A0 l0.length l0) (hc0 : l0.length ≤ c0) (hr1 : Kd.C k44 w A1 l1.length l1) (hc1 : l1.length ≤ c1) (h : trailer_Merge.f l0 l1 = some r) : Calls Try.prog 45 #[.slice A0 l0.length c0, .slice A1 l1.length c1] w fun e w' => ∃ v0_ : Value, e = .returned v0_ ∧ Kd.R k44 44 w' w.heap.size (fun _ => True) v0_ r ∧ Below w.heap.size w w' := by
  unfold trailer_Merge.f at h
  split at h
  · rename_i hs
    obtain rfl := Option.some.inj h
    exact merge_any A0 c0 l0 A1 c1 l1 w hr0 hc0 hs.1 hr1 hc1 hs.2.1 (fun p hp => of_decide_eq_true (List.all_eq_true.1 hs.2.2 p hp))
  · cases h
end Go.Proofs.Ytbelgmfhaddhmaa.T
