/- What layer 8's reference comes to: Parse. -/
import Derived.Test.YtbelgmfhaddhmaaV8
import Derived.Test.YtbelgmfhaddhmaaExtQ
import Derived.Test.YtbelgmfhaddhmaaPureY
namespace Go.Proofs.Ytbelgmfhaddhmaa.Pure
open Go.RowKit Go.Proofs.Ytbelgmfhaddhmaa.Q Go.Proofs.Ytbelgmfhaddhmaa.R Go.Proofs.Ytbelgmfhaddhmaa.V Go.Proofs.YtbelgmfhaddhmaaW.PrintWords Go.Proofs.YtbelgmfhaddhmaaW.PrintLast Go.Proofs.YtbelgmfhaddhmaaW.PrintMore
set_option linter.unusedVariables false

theorem param_f (L : ByteArray) (hs : L.size ≤ 140737488351232) : abutmentref08_Param.f L = some (paramP L) := by rw [abutmentref08_Param.f, if_pos hs]
theorem rparse_l0 (N : ByteArray) : ∀ (n : Nat) (L : ByteArray) (l : List (ByteArray × ByteArray)), L.size ≤ n → L.size ≤ 100000000 → l.length + L.size ≤ 200000000 → Ev (fun k => abutmentref08_Parse.l0 k L N (l.map toS)) (match parsAll L l with | some l => (N, l.map toS, 0) | none => (⟨#[]⟩, [], 3)) := by
  intro n
  induction n with
  | zero =>
    intro L l h _ _
    rw [parsAll_end L l (by omega)]
    refine Ev.step (f := fun _ => some (N, l.map toS, 0)) (fun k => ?_) (Ev.now _)
    simp only [abutmentref08_Parse.l0]
    rw [if_pos ((nil_iff L).2 (by omega))]
  | succ n ih =>
    intro L l h hs hl
    by_cases h0 : L.size = 0
    · rw [parsAll_end L l h0]
      refine Ev.step (f := fun _ => some (N, l.map toS, 0)) (fun k => ?_) (Ev.now _)
      simp only [abutmentref08_Parse.l0]
      rw [if_pos ((nil_iff L).2 h0)]
    · refine Ev.step (f := fun k => if (paramP L).2.2.2 = true then (if (l.map toS).length < 4398046511104 then (abutmentref08_Parse.l0 k (paramP L).2.2.1 N ((l.map toS) ++ [(⟨(paramP L).1, (paramP L).2.1⟩ : S70)])) else (none)) else (some ((⟨#[]⟩ : ByteArray), ([] : List (S70)), 3))) (fun k => ?_) ?_
      · simp only [abutmentref08_Parse.l0]
        rw [if_neg (fun h => h0 ((nil_iff L).1 h)), param_f L (by omega)]
        rfl
      · obtain ⟨p1, p2⟩ := paramP_one L
        cases hb : (oneP L).bad with
        | true =>
          rw [parsAll_bad L l h0 hb]
          exact ev_neg (by rw [p1, hb]; simp) (Ev.now _)
        | false =>
          have hz := (oneP_size L).2 hb
          have hi := ih (oneP L).left (l ++ [((oneP L).name, (oneP L).value)]) (by omega) (by omega) (by rw [List.length_append, List.length_singleton]; omega)
          have hll : (l.map toS).length < 4398046511104 := by rw [List.length_map]; omega
          rw [parsAll_step L l h0 hb, p2 hb]
          rw [List.map_append] at hi
          obtain ⟨o, ho⟩ : ∃ o, o = oneP L := ⟨_, rfl⟩
          rw [← ho] at hi ⊢
          clear ho hb hz p1 p2
          exact ev_pos (c := true = true) rfl (ev_pos (c := (l.map toS).length < 4398046511104) hll hi)
theorem rparse_ev (s : ByteArray) (hs : s.size ≤ 100000000) : Ev (fun k => abutmentref08_Parse.f k s) (parseV s) := by
  unfold parseV parseP
  by_cases h0 : s.size = 0
  · rw [if_pos h0]
    refine Ev.congr (f := fun _ => some (⟨#[]⟩, [], 2)) (fun k => ?_) (Ev.now _)
    unfold abutmentref08_Parse.f
    rw [if_pos ((nil_iff s).2 h0)]
  · rw [if_neg h0]
    have hle := spn_le tcI s
    refine Ev.congr (f := fun k => (abutmentref04_Token.f k s).bind fun t137 => (if 0 ≤ t137 then (if t137 ≤ (s.size : Int) then ((abutmentref01_Lower.f k (s.extract 0 (t137 : Int).toNat)).bind fun t138 => (if t137 = 0 then (some ((⟨#[]⟩ : ByteArray), ([] : List (S70)), 3)) else (abutmentref08_Parse.l0 k (s.extract (t137 : Int).toNat s.size) t138 (([] : List (S70)))))) else (none)) else (none))) (fun k => ?_) (Ev.bind (rtoken_ev s (by omega)) ?_)
    · unfold abutmentref08_Parse.f
      rw [if_neg (fun h => h0 ((nil_iff s).1 h))]
    · refine ev_pos (by omega) (ev_pos (by omega) ?_)
      simp only [Int.toNat_natCast]
      refine Ev.bind (rlower_ev _ (by rw [ByteArray.size_extract]; omega)) ?_
      by_cases c : spn tcI s = 0
      · rw [if_pos c]; exact ev_pos (by omega) (Ev.now _)
      · rw [if_neg c]
        refine ev_neg (by omega) ?_
        have := rparse_l0 (lowS (s.extract 0 (spn tcI s))) _ (ofs s (spn tcI s)) [] (Nat.le_refl _) (by rw [ofs_size _ _ hle]; omega) (by rw [ofs_size _ _ hle]; simp; omega)
        cases hp : parsAll (ofs s (spn tcI s)) [] with
        | none => rw [hp] at this; exact this
        | some l => rw [hp] at this; exact this
end Go.Proofs.Ytbelgmfhaddhmaa.Pure
