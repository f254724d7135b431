/- The contract of header.Count. -/
import Derived.Test.YtbelgmfhaddhmaaExtU
namespace Go.Proofs.Ytbelgmfhaddhmaa.T
open Go.RowKit Go.Proofs.YtbelgmfhaddhmaaW.PrintWords Go.Proofs.YtbelgmfhaddhmaaW.PrintLast Go.Proofs.YtbelgmfhaddhmaaW.PrintMore Go.Proofs.Ytbelgmfhaddhmaa.Q Go.Proofs.Ytbelgmfhaddhmaa.Pure
set_option linter.unusedVariables false
set_option linter.unusedSimpArgs false
theorem inf9 : (Try.prog.info? 9).map (fun i => (i.zero, i.size, i.bytes)) = some (some (.string ⟨#[]⟩), 1, 16) := by kernel_rfl
set_option maxHeartbeats 1000000 in
theorem f111_any (n a b : ByteArray) (gp : Nat) (w : World) (hn : n.size ≤ 140737488351232) (h : w.heap[gp]? = some (.cells #[.string a, .string b] 44 (0, 0))) : Calls Try.prog 111 #[.string n, .pointer (some ⟨gp, 0, none⟩)] w fun e w' => e = .returned (.bool (foldB n a)) ∧ Below w.heap.size w w' := by
  have hc := (blk_cell h 0).trans rfl
  clear h
  have HN := Aside0.mk hn
  clear hn
  go_enter Try.func111, Try.ntmps111
  go_wp2_with fail
  refine (fold_any n a HN.out _).mono ?_
  rintro e w1 ⟨rfl, hb⟩
  have HB1 := Aside0.mk hb
  clear hb
  go_wp2
  go_ret
  exact ⟨rfl, HB1.out⟩
/-- What named's function holds. -/
structure Named (w : World) (gn gs : Nat) (n : ByteArray) : Prop where
  cn : w.heap[gn]? = some (.cells #[.slice (some ⟨gs, 0, none⟩) 1 1] 82 (0, 0))
  cs : w.heap[gs]? = some (.cells #[.string n] 9 (0, 0))
theorem Named.below {w w' : World} {gn gs : Nat} {n : ByteArray} (h : Named w gn gs n) (hb : Below w.heap.size w w') : Named w' gn gs n := ⟨blk_below h.cn hb, blk_below h.cs hb⟩
set_option maxHeartbeats 4000000 in
set_option maxRecDepth 100000 in
theorem f113_any (n a b : ByteArray) (gs gp : Nat) (w : World) (hn : n.size ≤ 140737488351232) (hs : w.heap[gs]? = some (.cells #[.string n] 9 (0, 0))) (hp : w.heap[gp]? = some (.cells #[.string a, .string b] 44 (0, 0))) : Calls Try.prog 113 #[.slice (some ⟨gs, 0, none⟩) 1 1, .func (.func 111) #[] #[.pointer (some ⟨gp, 0, none⟩)]] w fun e w' => e = .returned (.int .i64 (if foldB n a = true then 0 else -1)) ∧ Below w.heap.size w w' := by
  have HS := Aside0.mk hs
  have HP := Aside0.mk hp
  have HN := Aside0.mk hn
  clear hs hp hn
  obtain ⟨x, hx⟩ : ∃ x : Int, x = (if foldB n a = true then 0 else -1) := ⟨_, rfl⟩
  have HX := Lib.hid hx
  rw [← hx]
  clear hx
  go_enter Try.func113, Try.ntmps113
  go_wp2
  go_loopg [8] 1 (fun k v8 wr => ∃ i : Nat, v8 = .int .i64 (i : Int) ∧ Aside0 (i ≤ 1 ∧ 1 - i ≤ k) ∧ Aside0 (i = 1 → foldB n a = false) ∧ Aside0 (Below w.heap.size w wr))
  case atStart => exact ⟨0, rfl, ⟨by omega⟩, ⟨fun h => by omega⟩, ⟨Below.refl _ _⟩⟩
  case round =>
    obtain ⟨i, rfl, HI, HF, HB⟩ := hrel
    obtain ⟨hi0, hk⟩ := HI.out
    by_cases hi : i = 0
    · subst hi
      have hc := (blk_cell (blk_below HS.out HB.out) 0).trans rfl
      go_wp2_with fail
      refine (f111_any n a b gp _ HN.out (blk_below HP.out HB.out)).mono ?_
      rintro e w1 ⟨rfl, hb⟩
      have HB1 := Aside0.mk (below_step HB.out hb)
      clear hb hc
      cases hf : foldB n a with
      | true =>
        have HX2 : Hid (x = 0) := Lib.hid (by rw [HX.out, hf, if_pos rfl])
        clear hf
        go_wp2
        go_ret
        exact ⟨by rw [HX2.out]; rfl, HB1.out⟩
      | false =>
        have HF1 := Aside0.mk hf
        clear hf
        go_wp2
        go_roundg (gk - 1)
        case measure => omega
        case rel => exact ⟨1, rfl, ⟨by omega⟩, ⟨fun _ => HF1.out⟩, HB1⟩
    · obtain rfl : i = 1 := by omega
      have HX2 : Hid (x = -1) := Lib.hid (by rw [HX.out, HF.out rfl, if_neg (by decide)])
      go_wp2
      go_ret
      exact ⟨by rw [HX2.out]; rfl, HB.out⟩
set_option maxHeartbeats 1000000 in
theorem f110_any (n a b : ByteArray) (gs gp : Nat) (w : World) (hn : n.size ≤ 140737488351232) (hs : w.heap[gs]? = some (.cells #[.string n] 9 (0, 0))) (hp : w.heap[gp]? = some (.cells #[.string a, .string b] 44 (0, 0))) : Calls Try.prog 110 #[.slice (some ⟨gs, 0, none⟩) 1 1, .func (.func 111) #[] #[.pointer (some ⟨gp, 0, none⟩)]] w fun e w' => e = .returned (.bool (foldB n a)) ∧ Below w.heap.size w w' := by
  have HC := Aside0.mk (f113_any n a b gs gp w hn hs hp)
  clear hs hp hn
  cases hf : foldB n a with
  | true =>
    rw [hf, if_pos rfl] at HC
    clear hf
    go_enter Try.func110, Try.ntmps110
    go_wp2_with fail
    refine HC.out.mono ?_
    rintro e w1 ⟨rfl, hb⟩
    have HB1 := Aside0.mk hb
    clear hb
    go_wp2
    go_ret
    exact ⟨rfl, HB1.out⟩
  | false =>
    rw [hf, if_neg (by decide)] at HC
    clear hf
    go_enter Try.func110, Try.ntmps110
    go_wp2_with fail
    refine HC.out.mono ?_
    rintro e w1 ⟨rfl, hb⟩
    have HB1 := Aside0.mk hb
    clear hb
    go_wp2
    go_ret
    exact ⟨rfl, HB1.out⟩
set_option maxHeartbeats 1000000 in
theorem f109_any (n a b : ByteArray) (gn gs : Nat) (w : World) (hn : n.size ≤ 140737488351232) (h : Named w gn gs n) : Calls Try.prog 109 #[.agg #[.string a, .string b], .pointer (some ⟨gn, 0, none⟩)] w fun e w' => e = .returned (.bool (foldB n a)) ∧ Below w.heap.size w w' := by
  have hba : Below w.heap.size w (w.alloc (.cells #[.string a, .string b] 44 (0, 0))) := below_alloc (Below.refl _ _) _
  have HC := Aside0.mk (f110_any n a b gs w.heap.size (w.alloc (.cells #[.string a, .string b] 44 (0, 0))) hn (h.below hba).cs (blk_new _ _))
  have hc := (blk_cell (h.below hba).cn 0).trans rfl
  have HBA := Aside0.mk hba
  clear hba h hn
  go_enter Try.func109, Try.ntmps109
  go_wp2_with fail
  refine HC.out.mono ?_
  rintro e w1 ⟨rfl, hb⟩
  have HB1 := Aside0.mk (below_step HBA.out hb)
  clear hb hc
  go_wp2
  go_ret
  exact ⟨rfl, HB1.out⟩
set_option maxHeartbeats 1000000 in
theorem f106_any (gs : Nat) (w : World) : Calls Try.prog 106 #[.slice (some ⟨gs, 0, none⟩) 1 1] w fun e w' => e = .returned (.func (.func 109) #[] #[.pointer (some ⟨w.heap.size, 0, none⟩)]) ∧ w'.heap[w.heap.size]? = some (.cells #[.slice (some ⟨gs, 0, none⟩) 1 1] 82 (0, 0)) ∧ Below w.heap.size w w' := by
  have hba : Below w.heap.size w (w.alloc (.cells #[.slice (some ⟨gs, 0, none⟩) 1 1] 82 (0, 0))) := below_alloc (Below.refl _ _) _
  have hbn := blk_new w (.cells #[.slice (some ⟨gs, 0, none⟩) 1 1] 82 (0, 0))
  have HBA := Aside0.mk hba
  have HBN := Aside0.mk hbn
  clear hba hbn
  go_enter Try.func106, Try.ntmps106
  go_wp2
  go_ret
  exact ⟨rfl, HBN.out, HBA.out⟩
/-- The fields of a name. -/
def ofName (n : ByteArray) (l : List S44) : List S44 := l.filter fun p => foldB n p.f0
set_option maxHeartbeats 4000000 in
set_option maxRecDepth 100000 in
theorem all_any (n : ByteArray) (A : Option Addr) (c : Nat) (l : List S44) (w : World) (hn : n.size ≤ 140737488351232) (hr : Kd.C k44 w A l.length l) (hc : l.length ≤ c) (hl : l.length ≤ 1000000) : Calls Try.prog 89 #[.slice A l.length c, .string n] w fun e w' => ∃ v, e = .returned v ∧ Kd.R Kd.string 9 w' w.heap.size (fun _ => True) v ((ofName n l).map (·.f1)) ∧ Below w.heap.size w w' := by
  have HR := Aside0.mk hr
  have HN := Aside0.mk hn
  have HC := Aside0.mk hc
  clear hr hn hc
  go_enter Try.func89, Try.ntmps89
  go_wp2_with fail
  obtain ⟨z1, hz1⟩ : ∃ z1, w.alloc (.cells #[.string n] 9 (0, 0)) = z1 := ⟨_, rfl⟩
  have HS1 : Aside0 (z1.heap[w.heap.size]? = some (.cells #[.string n] 9 (0, 0))) := ⟨by rw [← hz1]; exact blk_new _ _⟩
  have HB1 : Aside0 (Below w.heap.size w z1) := ⟨by rw [← hz1]; exact below_alloc (Below.refl _ _) _⟩
  rw [hz1]
  clear hz1
  refine (f106_any _ _).mono ?_
  rintro e w2 ⟨rfl, hcn, hb⟩
  obtain ⟨gs, hgs⟩ : ∃ gs, w.heap.size = gs := ⟨_, rfl⟩
  obtain ⟨gn, hgn⟩ : ∃ gn, z1.heap.size = gn := ⟨_, rfl⟩
  have HNM : Aside0 (Named w2 gn gs n) := ⟨⟨by rw [← hgn, ← hgs]; exact hcn, by rw [← hgs]; exact blk_below HS1.out hb⟩⟩
  have HB2 := Aside0.mk (below_step HB1.out hb)
  have HR2 := Aside0.mk (Kd.C_below HR.out HB2.out)
  rw [hgs, hgn]
  have HGS := Lib.hid hgs
  clear hcn hb HS1 hgn hgs HB1
  go_wp2
  go_loopg [6, 14] l.length (fun k v6 v14 wr => ∃ (i : Nat) (v : Value), v6 = v ∧ v14 = .int .i64 (i : Int) ∧ Aside0 (i ≤ l.length ∧ l.length - i ≤ k) ∧ Aside0 (Kd.R Kd.string 9 wr w2.heap.size (fun _ => True) v ((ofName n (l.take i)).map (·.f1))) ∧ Aside0 (Below w2.heap.size w2 wr))
  case atStart => exact ⟨0, _, rfl, rfl, ⟨by omega⟩, ⟨Kd.R_nil _ _ _ _ _⟩, ⟨Below.refl _ _⟩⟩
  case round =>
    obtain ⟨i, v, rfl, rfl, HI, HO, HB⟩ := hrel
    obtain ⟨hi0, hk⟩ := HI.out
    obtain ⟨xs, hxs⟩ : ∃ xs, xs = (ofName n (l.take i)).map (·.f1) := ⟨_, rfl⟩
    have hml : xs.length ≤ i := by
      rw [hxs, List.length_map]
      exact Nat.le_trans (List.length_filter_le _ _) (by rw [List.length_take]; omega)
    have HXS := Lib.hid hxs
    rw [← hxs] at HO
    clear hxs
    obtain ⟨Ao, co, hvo⟩ := Kd.R_slice HO.out
    subst hvo
    by_cases hi : i < l.length
    · have hiI : (i : Int) < (l.length : Int) := by omega
      obtain ⟨p, hp⟩ : ∃ p, p = rd_T44 l (i : Int) := ⟨_, rfl⟩
      have hpl : p = l[i] := by rw [hp]; simp [rd_T44, List.getD_eq_getElem?_getD, List.getElem?_eq_getElem hi]
      have HTK : Aside0 (l.take (i + 1) = l.take i ++ [p]) := ⟨by rw [hpl]; exact List.take_succ_eq_append_getElem hi⟩
      obtain ⟨ad, rfl, hx0, hx1⟩ := at_T44 (Kd.C_below HR2.out HB.out) (i : Int) (by omega) hiI
      rw [← hp, Int.toNat_natCast] at hx0 hx1
      have HNW := Aside0.mk (HNM.out.below HB.out)
      have hba : Below wr.heap.size wr (wr.alloc (.cells #[.string p.f0, .string p.f1] 44 (0, 0))) := below_alloc (Below.refl _ _) _
      have HNA := Aside0.mk (HNW.out.below hba)
      have HBA := Aside0.mk (below_step HB.out hba)
      have HOA := Aside0.mk (Kd.R_below HO.out hba)
      have HPA := Aside0.mk (blk_new wr (.cells #[.string p.f0, .string p.f1] 44 (0, 0)))
      clear hp hpl hba
      have hBs : w2.heap.size ≤ wr.heap.size := HB.out.size
      go_wp2_with fail
      obtain ⟨gp, hgp⟩ : ∃ gp, wr.heap.size = gp := ⟨_, rfl⟩
      obtain ⟨za, hza⟩ : ∃ za, wr.alloc (.cells #[.string p.f0, .string p.f1] 44 (0, 0)) = za := ⟨_, rfl⟩
      rw [hza] at HNA HBA HOA HPA ⊢
      rw [hgp] at HPA ⊢
      clear hza hgp
      refine (f109_any n p.f0 p.f1 gn gs _ HN.out HNA.out).mono ?_
      rintro e w3 ⟨rfl, hb⟩
      have hBs3 : w2.heap.size ≤ w3.heap.size := Nat.le_trans HBA.out.size hb.size
      have HB3 := Aside0.mk (below_step HBA.out hb)
      have HO3 := Aside0.mk (Kd.R_below HOA.out hb)
      have hp1 := (blk_cell (blk_below HPA.out hb) 1).trans rfl
      clear hb hx0 hx1
      have hlen : (xs.length + 1) * 16 ≤ 140737488355328 := by omega
      cases hf : foldB n p.f0 with
      | true =>
        have HE : Hid ((ofName n (l.take (i + 1))).map (·.f1) = xs ++ [p.f1]) := Lib.hid (by
          rw [HXS.out, HTK.out, ofName, List.filter_append, List.filter_cons, if_pos hf, List.filter_nil, List.map_append]; rfl)
        clear hf
        go_wp2_with (at_builtin; refine Kd.R_append Kd.string (w0 := w2) w2.heap.size rfl (.tmp 21) (.tmp 24) 82 9 (.string ⟨#[]⟩) 16 rfl Try.underlying82 inf9 rfl (by decide) (by omega) _ _ p.f1 [.string p.f1] (fun _ => True) (fun _ => False) rfl rfl rfl (fun _ hk => hk.elim) (fun _ _ => trivial) HO3.out HB3.out hBs3 hlen ?_)
        intro v1 w4 hown hB4 hgr hat
        rw [← HE.out] at hown
        have HO4 := Aside0.mk hown
        have HB4 := Aside0.mk hB4
        clear hown hB4 hgr hat
        go_wp2
        go_roundg (gk - 1)
        case measure => omega
        case rel => exact ⟨i + 1, _, rfl, rfl, ⟨by omega⟩, HO4, HB4⟩
      | false =>
        have HE : Hid ((ofName n (l.take (i + 1))).map (·.f1) = xs) := Lib.hid (by
          rw [HXS.out, HTK.out, ofName, List.filter_append, List.filter_cons, if_neg (by rw [hf]; decide), List.filter_nil, List.append_nil]; rfl)
        clear hf
        go_wp2
        go_roundg (gk - 1)
        case measure => omega
        case rel => exact ⟨i + 1, _, rfl, rfl, ⟨by omega⟩, by rw [HE.out]; exact HO3, HB3⟩
    · have hiI : ¬ (i : Int) < (l.length : Int) := by omega
      have HBW : Aside0 (Below w.heap.size w wr) := ⟨below_step HB2.out (HB.out)⟩
      have HOW := Aside0.mk (Kd.R_lower HO.out HB2.out.size)
      have HFX : Hid (xs = (ofName n l).map (·.f1)) := Lib.hid (by rw [HXS.out, List.take_of_length_le (show l.length ≤ i by omega)])
      go_wp2
      go_ret
      exact ⟨_, rfl, by rw [← HFX.out]; exact HOW.out, HBW.out⟩
def trailer_all.f (l : List S44) (n : ByteArray) : List ByteArray := (ofName n l).map (·.f1)
def header_Count.f (l0 : List S44) (a1 : ByteArray) : Option Int := if l0.length ≤ 1000000 ∧ a1.size ≤ 140737488351232 then some ((ofName a1 l0).length : Int) else none
set_option maxHeartbeats 1000000 in
theorem header_Count.calls (A0 : Option Addr) (c0 : Nat) (l0 : List S44) (a1 : ByteArray) (r : Int) (w : World) (hr0 : Kd.C k44 w A0 l0.length l0) (hc0 : l0.length ≤ c0) (h : header_Count.f l0 a1 = some r) : Calls Try.prog 47 #[.slice A0 l0.length c0, .string a1] w fun e w' => e = .returned (.int .i64 r) ∧ Below w.heap.size w w' := by
  unfold header_Count.f at h
  split at h
  · rename_i hs
    obtain rfl := Option.some.inj h
    have HC := Aside0.mk (all_any a1 A0 c0 l0 w hs.2 hr0 hc0 hs.1)
    clear hr0 hc0 hs h
    go_enter Try.func47, Try.ntmps47
    go_wp2_with fail
    refine HC.out.mono ?_
    rintro e w1 ⟨v, rfl, ho, hb⟩
    obtain ⟨A, c, hv⟩ := Kd.R_slice ho
    subst hv
    rw [List.length_map]
    have HB := Aside0.mk hb
    clear hb ho
    go_wp2
    go_ret
    exact ⟨rfl, HB.out⟩
  · cases h
end Go.Proofs.Ytbelgmfhaddhmaa.T
