/- The contracts of package trailer: barred, Allowed. -/
import Derived.Test.YtbelgmfhaddhmaaT0
import Derived.Test.YtbelgmfhaddhmaaPureB
import Derived.Laws.CopyOwn
namespace Go.Proofs.Ytbelgmfhaddhmaa.T
open Go.RowKit Go.Proofs.YtbelgmfhaddhmaaW.PrintWords Go.Proofs.YtbelgmfhaddhmaaW.PrintLast Go.Proofs.YtbelgmfhaddhmaaW.PrintMore Go.Proofs.Ytbelgmfhaddhmaa.Q Go.Proofs.Ytbelgmfhaddhmaa.Pure
set_option linter.unusedVariables false
set_option linter.unusedSimpArgs false
theorem fold_any (a b : ByteArray) (ha : a.size ≤ 140737488351232) (w : World) : Calls Try.prog 25 #[.string a, .string b] w fun e w' => e = .returned (.bool (foldB a b)) ∧ Below w.heap.size w w' := by
  obtain ⟨k, hk⟩ := (fold_ev a b ha).rounds
  exact (octet_Fold.calls k a b _ w hk).mono (fun e w' h => ⟨h.1, by first | exact h.2 | exact h.2.below⟩)
/-- The names that may not be. -/
def barsL : List ByteArray := [⟨#[65, 103, 101]⟩, ⟨#[65, 117, 116, 104, 111, 114, 105, 122, 97, 116, 105, 111, 110]⟩, ⟨#[67, 97, 99, 104, 101, 45, 67, 111, 110, 116, 114, 111, 108]⟩, ⟨#[67, 111, 110, 110, 101, 99, 116, 105, 111, 110]⟩, ⟨#[67, 111, 110, 116, 101, 110, 116, 45, 69, 110, 99, 111, 100, 105, 110, 103]⟩, ⟨#[67, 111, 110, 116, 101, 110, 116, 45, 76, 101, 110, 103, 116, 104]⟩, ⟨#[67, 111, 110, 116, 101, 110, 116, 45, 82, 97, 110, 103, 101]⟩, ⟨#[67, 111, 110, 116, 101, 110, 116, 45, 84, 121, 112, 101]⟩, ⟨#[67, 111, 111, 107, 105, 101]⟩, ⟨#[68, 97, 116, 101]⟩, ⟨#[69, 120, 112, 101, 99, 116]⟩, ⟨#[69, 120, 112, 105, 114, 101, 115]⟩, ⟨#[72, 111, 115, 116]⟩, ⟨#[73, 102, 45, 77, 97, 116, 99, 104]⟩, ⟨#[73, 102, 45, 77, 111, 100, 105, 102, 105, 101, 100, 45, 83, 105, 110, 99, 101]⟩, ⟨#[73, 102, 45, 78, 111, 110, 101, 45, 77, 97, 116, 99, 104]⟩, ⟨#[73, 102, 45, 82, 97, 110, 103, 101]⟩, ⟨#[73, 102, 45, 85, 110, 109, 111, 100, 105, 102, 105, 101, 100, 45, 83, 105, 110, 99, 101]⟩, ⟨#[75, 101, 101, 112, 45, 65, 108, 105, 118, 101]⟩, ⟨#[76, 111, 99, 97, 116, 105, 111, 110]⟩, ⟨#[77, 97, 120, 45, 70, 111, 114, 119, 97, 114, 100, 115]⟩, ⟨#[80, 114, 97, 103, 109, 97]⟩, ⟨#[80, 114, 111, 120, 121, 45, 65, 117, 116, 104, 101, 110, 116, 105, 99, 97, 116, 101]⟩, ⟨#[80, 114, 111, 120, 121, 45, 65, 117, 116, 104, 111, 114, 105, 122, 97, 116, 105, 111, 110]⟩, ⟨#[80, 114, 111, 120, 121, 45, 67, 111, 110, 110, 101, 99, 116, 105, 111, 110]⟩, ⟨#[82, 97, 110, 103, 101]⟩, ⟨#[82, 101, 116, 114, 121, 45, 65, 102, 116, 101, 114]⟩, ⟨#[83, 101, 116, 45, 67, 111, 111, 107, 105, 101]⟩, ⟨#[84, 69]⟩, ⟨#[84, 114, 97, 105, 108, 101, 114]⟩, ⟨#[84, 114, 97, 110, 115, 102, 101, 114, 45, 69, 110, 99, 111, 100, 105, 110, 103]⟩, ⟨#[85, 112, 103, 114, 97, 100, 101]⟩, ⟨#[86, 97, 114, 121]⟩, ⟨#[86, 105, 97]⟩, ⟨#[87, 87, 87, 45, 65, 117, 116, 104, 101, 110, 116, 105, 99, 97, 116, 101]⟩]
def barsA : Array Value := (barsL.map Value.string).toArray
def noneA : Array Value := (barsL.map fun _ => Value.string ⟨#[]⟩).toArray
theorem build_as {P : Program} {ops : Array Oper} {rest : List Oper} {o : Oper} {a : Act} {w : World} {Q : Exit → Act → World → Prop} (hg : o.guard = none) (t : TypeId) (parts : Array (Nat × Operand)) (ho : o.op = .build t parts)
    (c : Array Value) (hc : P.built t (parts.map fun (i, x) => (i, a.eval x)).toList = some c)
    (h : wpList P ops Q rest (a.put o.dst (.agg c)) w) : wpList P ops Q (o :: rest) a w :=
  wpList_build hg t parts ho (by rw [hc]; rfl) (by rw [hc]; exact h)
theorem results_c1 {fn : Func} {p : Tmp} {ty : TypeId} (h : fn.results = #[.cell p ty]) (tmps : Array Value) (w : World) (g : Nat) (cs : Array Value)
    (hp : tmps.getD p undef = .pointer (some ⟨g, 0, none⟩)) (hl : (loadVar ty ⟨g, 0, none⟩).run Try.prog w = .ok (.agg cs) w) :
    (results fn tmps).run Try.prog w = .ok (.agg cs) w := by
  have hp' : tmps[p]?.getD undef = .pointer (some ⟨g, 0, none⟩) := by simpa using hp
  simp [results, h, hp', asAddr, hl]
set_option maxHeartbeats 4000000 in
set_option maxRecDepth 100000 in
theorem barred_any (w : World) : Calls Try.prog 83 #[] w fun e w' => e = .returned (.agg barsA) ∧ Below w.heap.size w w' := by
  go_enter Try.func83, Try.ntmps83
  go_upto_region 1 with (fail)
  obtain ⟨z1, hz1⟩ : ∃ z1, w.alloc (.cells noneA 80 (0, 0)) = z1 := ⟨_, rfl⟩
  have HG1 : z1.heap[w.heap.size]? = some (.cells noneA 80 (0, 0)) := by rw [← hz1]; exact blk_new _ _
  have HB1 : Below w.heap.size w z1 := by rw [← hz1]; exact below_alloc (Below.refl _ _) _
  have hbA : barsA.all (·.oneCell') = true := by kernel_rfl
  have hsz : noneA.size = barsA.size := by kernel_rfl
  have hinf : (Try.prog.info? 80).map (·.size) = some barsA.size := by kernel_rfl
  have e0 : w.alloc (.cells noneA 80 (0, 0)) = _ := hz1
  refine Eq.mp (congrArg (Code.wp Try.prog _ _ _) hz1.symm) ?_
  clear hz1 e0
  obtain ⟨g, hg⟩ : ∃ g, w.heap.size = g := ⟨_, rfl⟩
  have hgB : w.heap.size ≤ g := by omega
  rw [hg] at HG1 ⊢
  clear hg
  go_wp2_with (first | ((with_reducible refine gate_dst (N := 1) rfl ?_); refine build_as rfl 80 _ rfl barsA (by kernel_rfl) ?_) | ((with_reducible refine gate_store (t := 80) (p := 0) rfl ?_); refine wpList_store_row rfl 80 _ _ rfl g barsA rfl rfl 80 noneA HG1 hinf hsz hbA ?_))
  refine bodyPost_ret (results_c1 rfl _ _ g barsA rfl (run_loadVar_row (z1.setRow g barsA) g 80 80 barsA (0, 0) _ (setRow_heap z1 g noneA barsA 80 (0, 0) HG1) Try.underlying80 rfl hinf)) rfl ?_
  exact ⟨rfl, below_setRow HB1 hgB barsA⟩
/-- May it be? -/
def allowedB (name : ByteArray) : Bool := !(barsL.any fun b => foldB b name) && tokenI name
theorem token_any8 (s : ByteArray) (w : World) : Calls Try.prog 30 #[.string s] w fun e w' => e = .returned (.bool (tokenI s)) ∧ Below w.heap.size w w' := octet_Token.calls s _ w rfl
theorem barsA_at (i : Nat) (h : i < 35) : barsA[i]? = some (.string (barsL[i]'h)) := by
  simp only [barsA, List.getElem?_toArray, List.getElem?_map, List.getElem?_eq_getElem (show i < barsL.length from h), Option.map_some]
  rfl
theorem bars_small : ∀ b ∈ barsL, b.size ≤ 140737488351232 := by
  have h : barsL.all (fun b => decide (b.size ≤ 140737488351232)) = true := by kernel_rfl
  intro b hb
  have := List.all_eq_true.1 h b hb
  exact of_decide_eq_true this
set_option maxHeartbeats 4000000 in
set_option maxRecDepth 100000 in
theorem allowed_any (s : ByteArray) (w : World) : Calls Try.prog 40 #[.string s] w fun e w' => e = .returned (.bool (allowedB s)) ∧ Below w.heap.size w w' := by
  have hbA : barsA.all (·.oneCell') = true := by kernel_rfl
  have hinf : (Try.prog.info? 80).map (·.size) = some barsA.size := by kernel_rfl
  have HBA := Aside0.mk hbA
  have HINF := Aside0.mk hinf
  clear hbA hinf
  go_enter Try.func40, Try.ntmps40
  go_wp2_with (first | ((with_reducible refine gate_callee (f := 83) rfl ?_); refine goesL_ (some 5) rfl rfl Try.func83 (by kernel_rfl) rfl #[] rfl (by simp) ?_; refine (barred_any _).mono ?_; rintro e w1 ⟨rfl, hb⟩; refine ⟨_, rfl, ?_⟩; have HB1 := Aside0.mk hb; clear hb) | ((with_reducible refine gate_dst (N := 3) rfl ?_); refine box_event (N := 3) (cs := noneA) (t := 80) rfl rfl ?hr ?_; (case hr => (first | (go_simp; done) | (go_simp; rfl))); intro gb hg w2 hbox hb; have HB2 := Aside0.mk (below_step HB1.out hb); have HBX := Aside0.mk hbox; have HGB := Lib.hid hg; clear hb hbox hg) | ((with_reducible refine gate_store (t := 80) (p := 3) rfl ?_); refine wpList_store_row rfl 80 _ _ rfl gb barsA rfl rfl 80 noneA HBX.out HINF.out (by kernel_rfl) HBA.out ?_))
  have hgbB : w.heap.size ≤ gb := by rw [HGB.out]; exact HB1.out.size
  obtain ⟨z2, hz2⟩ : ∃ z2, w2.setRow gb barsA = z2 := ⟨_, rfl⟩
  have HX2 : Aside0 (z2.heap[gb]? = some (.cells barsA 80 (0, 0))) := ⟨by rw [← hz2]; exact setRow_heap w2 gb noneA barsA 80 (0, 0) HBX.out⟩
  have HZ2 : Aside0 (Below w.heap.size w z2) := ⟨by rw [← hz2]; exact below_setRow HB2.out hgbB barsA⟩
  rw [hz2]
  clear hz2 HB1 HB2 HBX HGB
  (try simp only [Act.put, List.setIfInBounds_toArray, List.set_cons_zero, List.set_cons_succ])
  go_wp2
  go_loopg [6] 35 (fun k v6 wr => ∃ i : Nat, v6 = .int .i64 (i : Int) ∧ Aside0 (i ≤ 35 ∧ 35 - i ≤ k) ∧ Aside0 (wr.heap[gb]? = some (.cells barsA 80 (0, 0))) ∧ Aside0 ((barsL.take i).any (fun b => foldB b s) = false) ∧ Aside0 (Below w.heap.size w wr))
  case atStart => exact ⟨0, rfl, ⟨by omega⟩, HX2, ⟨rfl⟩, HZ2⟩
  case round =>
    obtain ⟨i, rfl, HI, HX, HN, HB⟩ := hrel
    obtain ⟨hi0, hk⟩ := HI.out
    by_cases hi : i < 35
    · have hiI : (i : Int) < 35 := by omega
      have hcell : wr.cell? ⟨gb, i, none⟩ = some (.string (barsL[i]'hi)) := (blk_cell HX.out i).trans (barsA_at i hi)
      have HSM := Aside0.mk (bars_small (barsL[i]'hi) (List.getElem_mem hi))
      have HTK : Aside0 (barsL.take (i + 1) = barsL.take i ++ [barsL[i]'hi]) := ⟨List.take_succ_eq_append_getElem hi⟩
      obtain ⟨bi, hbi⟩ : ∃ bi, bi = barsL[i]'hi := ⟨_, rfl⟩
      have HIN : Aside0 (bi ∈ barsL) := ⟨by rw [hbi]; exact List.getElem_mem hi⟩
      rw [← hbi] at hcell HSM HTK
      clear hbi
      go_wp2_with fail
      refine (fold_any bi s HSM.out _).mono ?_
      rintro e w3 ⟨rfl, hb⟩
      have HX3 := Aside0.mk (blk_below HX.out hb)
      have HB3 := Aside0.mk (below_step HB.out hb)
      clear hb hcell
      cases hf : foldB bi s with
      | true =>
        have HF : Hid (allowedB s = false) := Lib.hid (by
          rw [allowedB, List.any_eq_true.2 ⟨bi, HIN.out, hf⟩]; rfl)
        clear hf
        go_wp2
        go_ret
        exact ⟨by rw [HF.out]; rfl, HB3.out⟩
      | false =>
        have HN3 : Aside0 ((barsL.take (i + 1)).any (fun b => foldB b s) = false) := ⟨by rw [HTK.out, List.any_append, HN.out]; simp [hf]⟩
        clear hf
        go_wp2
        go_roundg (gk - 1)
        case measure => omega
        case rel => exact ⟨i + 1, rfl, ⟨by omega⟩, HX3, HN3, HB3⟩
    · have hiI : ¬ (i : Int) < 35 := by omega
      have HF : Hid (allowedB s = tokenI s) := Lib.hid (by
        have := HN.out
        rw [List.take_of_length_le (show barsL.length ≤ i by show 35 ≤ i; omega)] at this
        rw [allowedB, this]; rfl)
      go_wp2_with fail
      refine (token_any8 s _).mono ?_
      rintro e w3 ⟨rfl, hb⟩
      have HB3 := Aside0.mk (below_step HB.out hb)
      clear hb
      go_wp2
      go_ret
      exact ⟨by rw [HF.out]; rfl, HB3.out⟩
def trailer_Allowed.f (a0 : ByteArray) : Option Bool := some (allowedB a0)
theorem trailer_Allowed.calls (a0 : ByteArray) (r : Bool) (w : World) (h : trailer_Allowed.f a0 = some r) : Calls Try.prog 40 #[.string a0] w fun e w' => e = .returned (.bool r) ∧ Below w.heap.size w w' := by
  obtain rfl := Option.some.inj h
  exact allowed_any a0 w
end Go.Proofs.Ytbelgmfhaddhmaa.T
