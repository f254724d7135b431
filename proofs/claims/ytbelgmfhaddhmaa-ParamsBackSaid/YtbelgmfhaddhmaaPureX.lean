/- The plain law of ParamsBack: what is printed is read as the same. -/
import Derived.Test.YtbelgmfhaddhmaaV6
import Derived.Test.YtbelgmfhaddhmaaPureZ
import Derived.Test.YtbelgmfhaddhmaaOpenP
namespace Go.Proofs.Ytbelgmfhaddhmaa.Pure
open Go.RowKit Go.Proofs.Ytbelgmfhaddhmaa.Q Go.Proofs.Ytbelgmfhaddhmaa.R Go.Proofs.Ytbelgmfhaddhmaa.V Go.Proofs.YtbelgmfhaddhmaaW.PrintWords Go.Proofs.YtbelgmfhaddhmaaW.PrintLast Go.Proofs.YtbelgmfhaddhmaaW.PrintMore
set_option linter.unusedVariables false

def hd (s : ByteArray) : Option Int := (bytesOf s).head?
theorem hd_none {s : ByteArray} (h : hd s = none) : s.size = 0 := by
  rw [hd, List.head?_eq_none_iff] at h
  rw [← bytesOf_length, h]; rfl
theorem hd_some {s : ByteArray} {x : Int} (h : hd s = some x) : 0 < s.size ∧ bt s 0 = x := by
  have h0 : 0 < s.size := by
    rw [← bytesOf_length]
    cases hb : bytesOf s with
    | nil => rw [hd, hb] at h; cases h
    | cons a l => simp
  refine ⟨h0, ?_⟩
  have e := bt_nat s 0 h0
  rw [show ((0 : Nat) : Int) = 0 from rfl] at e
  rw [e]
  rw [hd, List.head?_eq_getElem?] at h
  rw [List.getElem?_eq_getElem (by rw [bytesOf_length]; exact h0)] at h
  exact Option.some.inj h
theorem hd_lit (c : UInt8) (s : ByteArray) : hd ((⟨#[c]⟩ : ByteArray) ++ s) = some (c.toNat : Int) := by rw [hd, bytesOf_append]; rfl
theorem hd_app {a b : ByteArray} (h : a.size ≠ 0) : hd (a ++ b) = hd a := by
  rw [hd, bytesOf_append, hd]
  cases hb : bytesOf a with
  | nil => rw [← bytesOf_length, hb] at h; exact absurd rfl h
  | cons x l => rfl
theorem isAt_hd {s : ByteArray} {x b : Int} (h : hd s = some x) : isAt s b ↔ x = b := by
  obtain ⟨h0, h1⟩ := hd_some h
  exact ⟨fun h => h1.symm.trans h.2, fun h => ⟨h0, h1.trans h⟩⟩
theorem not_isAt {s : ByteArray} (b : Int) (h : hd s = none) : ¬ isAt s b := fun h2 => by have := h2.1; have := hd_none h; omega
theorem tw_self (p : Int → Bool) (l : List Int) (h : l.all p = true) : l.takeWhile p = l := by
  induction l with
  | nil => rfl
  | cons a l ih =>
    rw [List.all_cons, Bool.and_eq_true] at h
    rw [List.takeWhile_cons, if_pos h.1, ih h.2]
theorem tw_take (p : Int → Bool) (l : List Int) : l.take (l.takeWhile p).length = l.takeWhile p := by
  induction l with
  | nil => rfl
  | cons a l ih =>
    rw [List.takeWhile_cons]
    by_cases h : p a = true
    · rw [if_pos h, List.length_cons, List.take_succ_cons, ih]
    · rw [if_neg h]; rfl
theorem spn_app (p : Int → Bool) (a b : ByteArray) (ha : (bytesOf a).all p = true) (hb : ∀ x, hd b = some x → p x = false) : spn p (a ++ b) = a.size := by
  rw [spn, bytesOf_append]
  cases hq : bytesOf b with
  | nil =>
    rw [List.append_nil]
    rw [tw_self p _ ha, bytesOf_length]
  | cons x l =>
    have hx := hb x (by rw [hd, hq]; rfl)
    rw [tw_append _ _ _ _ ha hx, bytesOf_length]
theorem spn_zero (p : Int → Bool) (s : ByteArray) (h : ∀ x, hd s = some x → p x = false) : spn p s = 0 := by
  have e : (⟨#[]⟩ : ByteArray) ++ s = s := ByteArray.empty_append
  have := spn_app p ⟨#[]⟩ s rfl h
  rw [e] at this
  exact this
theorem aft_id (s : ByteArray) (h : ∀ x, hd s = some x → blI x = false) : aft s = s := by rw [aft, spn_zero _ _ h, ofs_zero]
theorem cut_app (a b : ByteArray) : upto (a ++ b) a.size = a ∧ ofs (a ++ b) a.size = b := cut_at _ a b (bytesOf_append a b) _ rfl
theorem tok_hd {s : ByteArray} (h : tokenI s = true) : ∃ x, hd s = some x ∧ tcI x = true := by
  rw [tokenI, Bool.and_eq_true] at h
  cases hb : bytesOf s with
  | nil => rw [hb] at h; simp at h
  | cons x l =>
    refine ⟨x, by rw [hd, hb]; rfl, ?_⟩
    have := h.2
    rw [hb, List.all_cons, Bool.and_eq_true] at this
    exact this.1
theorem tok_ne {s : ByteArray} (h : tokenI s = true) : s.size ≠ 0 := by
  obtain ⟨x, hx, _⟩ := tok_hd h
  have := (hd_some hx).1
  omega
theorem tok_all {s : ByteArray} (h : tokenI s = true) : (bytesOf s).all tcI = true := by
  rw [tokenI, Bool.and_eq_true] at h
  exact h.2
theorem tc_bl {x : Int} (h : tcI x = true) : blI x = false := by
  rw [Bool.eq_false_iff]
  intro hb
  simp only [blI, Bool.or_eq_true, beq_iff_eq] at hb
  rcases hb with rfl | rfl <;> revert h <;> decide
/-- A text's end: nothing, or a parameter. -/
def Tl (s : ByteArray) : Prop := hd s = none ∨ hd s = some 59
theorem Tl.not {s : ByteArray} (h : Tl s) (p : Int → Bool) (hp : p 59 = false) : ∀ x, hd s = some x → p x = false := by
  intro x hx
  rcases h with h | h
  · rw [h] at hx; cases hx
  · rw [h] at hx; obtain rfl := Option.some.inj hx; exact hp
theorem quoted_app (s b : ByteArray) (hv : valueI s = true) : Q.quoted (qtV s ++ b) = some (bytesOf s, (qtV s).size) := by
  have hz := size_bytes (qtV_bytes s)
  rw [List.length_append, List.length_cons, List.length_singleton] at hz
  rw [Q.quoted, bytesOf_append, qtV_bytes]
  show (if (34 : Int) = 34 then qt [] ((esc (bytesOf s) ++ [34]) ++ bytesOf b) 1 else none) = _
  rw [if_pos rfl, List.append_assoc, List.singleton_append, qt_esc _ hv, List.nil_append]
  congr 2
  omega
theorem hd_qtV (s b : ByteArray) : hd (qtV s ++ b) = some 34 := by
  rw [hd, bytesOf_append, qtV_bytes]; rfl
/-- A value's text is read as the value. -/
theorem val_back (v R : ByteArray) (h0 : v.size ≠ 0) (hk : qtOk v = true) (hR : Tl R) : valP ((⟨#[61]⟩ : ByteArray) ++ (qtS v ++ R)) = (v, true, R) := by
  obtain ⟨L, hL⟩ : ∃ L, L = (⟨#[61]⟩ : ByteArray) ++ (qtS v ++ R) := ⟨_, rfl⟩
  have h1 : hd L = some 61 := by rw [hL]; exact hd_lit 61 _
  have h2 : aft L = L := aft_id L (fun x hx => by rw [h1] at hx; obtain rfl := Option.some.inj hx; rfl)
  have h3 : ofs L 1 = qtS v ++ R := by rw [hL]; exact (cut_app (⟨#[61]⟩ : ByteArray) _).2
  rw [← hL]
  unfold valP
  rw [h2, if_pos ((isAt_hd h1).2 rfl), h3]
  by_cases ht : tokenI v = true
  · have e : qtS v = v := by rw [qtS, if_pos ht]
    rw [e]
    obtain ⟨x, hx, hc⟩ := tok_hd ht
    have h4 : hd (v ++ R) = some x := by rw [hd_app h0]; exact hx
    have h5 : aft (v ++ R) = v ++ R := aft_id _ (fun y hy => by rw [h4] at hy; obtain rfl := Option.some.inj hy; exact tc_bl hc)
    have h6 : spn tcI (v ++ R) = v.size := spn_app _ _ _ (tok_all ht) (hR.not _ (by decide))
    rw [h5, h6, if_neg h0, (cut_app v R).1, (cut_app v R).2]
  · have hv : valueI v = true := by
      rw [qtOk, Bool.or_eq_true] at hk
      exact hk.resolve_left ht
    have e : qtS v = qtV v := by rw [qtS, if_neg ht, if_pos hv]; rfl
    rw [e]
    have h4 := hd_qtV v R
    have h5 : aft (qtV v ++ R) = qtV v ++ R := aft_id _ (fun y hy => by rw [h4] at hy; obtain rfl := Option.some.inj hy; rfl)
    have h6 : spn tcI (qtV v ++ R) = 0 := spn_zero _ _ (fun y hy => by rw [h4] at hy; obtain rfl := Option.some.inj hy; decide)
    have h7 := quoted_app v R hv
    rw [h5, if_pos h6, h7]
    have e1 : qs (qtV v ++ R) = v := by rw [qs, h7]; exact strOf_bytesOf v
    have e2 : ofs (qtV v ++ R) (qn (qtV v ++ R)) = R := by rw [qn, h7]; exact (cut_app (qtV v) R).2
    rw [e1, e2]
    rfl
theorem val_none (R : ByteArray) (hR : Tl R) : valP R = (⟨#[]⟩, true, R) := by
  have h2 : aft R = R := aft_id R (hR.not _ (by decide))
  unfold valP
  rw [h2, if_neg]
  rcases hR with h | h
  · exact not_isAt 61 h
  · exact fun h2 => by have := (isAt_hd h).1 h2; omega
/-- A parameter's text is read as the parameter. -/
theorem one_back (p : S70) (R : ByteArray) (hp : prOk p = true) (hR : Tl R) : oneP (prOne p ++ R) = ⟨lowS p.f0, p.f1, R, false⟩ := by
  rw [prOk, Bool.and_eq_true] at hp
  obtain ⟨ht, hv⟩ := hp
  have hne := tok_ne ht
  obtain ⟨x, hx, hc⟩ := tok_hd ht
  obtain ⟨r, hr, hrv, hrt⟩ : ∃ r, prOne p ++ R = (⟨#[59]⟩ : ByteArray) ++ (p.f0 ++ r) ∧ valP r = (p.f1, true, R) ∧ ∀ y, hd r = some y → tcI y = false := by
    by_cases h0 : p.f1.size = 0
    · refine ⟨R, ?_, ?_, hR.not _ (by decide)⟩
      · rw [prOne, if_pos h0, assoc_a]
      · have e : p.f1 = ⟨#[]⟩ := by
          apply str_ext
          have : bytesOf p.f1 = [] := List.eq_nil_of_length_eq_zero (by rw [bytesOf_length]; exact h0)
          rw [this]; rfl
        rw [e]
        exact val_none R hR
    · refine ⟨(⟨#[61]⟩ : ByteArray) ++ (qtS p.f1 ++ R), ?_, ?_, ?_⟩
      · rw [prOne, if_neg h0]; simp only [assoc_a]
      · have hq : qtOk p.f1 = true := by
          rw [Bool.or_eq_true, decide_eq_true_eq] at hv
          exact hv.resolve_left h0
        exact val_back p.f1 R h0 hq hR
      · intro y hy
        rw [hd_lit] at hy
        obtain rfl := Option.some.inj hy
        decide
  rw [hr]
  obtain ⟨L, hL⟩ : ∃ L, L = (⟨#[59]⟩ : ByteArray) ++ (p.f0 ++ r) := ⟨_, rfl⟩
  rw [← hL]
  have h1 : hd L = some 59 := by rw [hL]; exact hd_lit 59 _
  have h2 : aft L = L := aft_id L (fun x hx => by rw [h1] at hx; obtain rfl := Option.some.inj hx; rfl)
  have h3 : ofs L 1 = p.f0 ++ r := by rw [hL]; exact (cut_app (⟨#[59]⟩ : ByteArray) _).2
  have h4 : hd (p.f0 ++ r) = some x := by rw [hd_app hne]; exact hx
  have h5 : aft (p.f0 ++ r) = p.f0 ++ r := aft_id _ (fun y hy => by rw [h4] at hy; obtain rfl := Option.some.inj hy; exact tc_bl hc)
  have h6 : spn tcI (p.f0 ++ r) = p.f0.size := spn_app _ _ _ (tok_all ht) hrt
  have hat : isAt L 59 := (isAt_hd h1).2 rfl
  unfold oneP
  simp only [h2, if_pos hat, decide_eq_true hat, h3, h5, h6, (cut_app p.f0 r).1, (cut_app p.f0 r).2, hrv, lowS_is]
  rw [decide_eq_false hne]
  rfl
/-- The text of all parameters. -/
def prTail : List S70 → ByteArray
  | [] => ⟨#[]⟩
  | p :: l => prOne p ++ prTail l
theorem prOut_tail : ∀ (l : List S70) (out : ByteArray), prOut out l = out ++ prTail l := by
  intro l
  induction l with
  | nil => intro out; exact (ByteArray.append_empty).symm
  | cons p l ih =>
    intro out
    show prOut (out ++ prOne p) l = out ++ (prOne p ++ prTail l)
    rw [ih, assoc_a]
theorem hd_prOne (p : S70) (R : ByteArray) : hd (prOne p ++ R) = some 59 := by
  unfold prOne
  split
  · rw [assoc_a]; exact hd_lit 59 _
  · rw [assoc_a, assoc_a]; exact hd_lit 59 _
theorem tail_Tl (l : List S70) : Tl (prTail l) := by
  cases l with
  | nil => exact .inl rfl
  | cons p l => exact .inr (hd_prOne p _)
def lowP (p : S70) : ByteArray × ByteArray := (lowS p.f0, p.f1)
theorem pars_back : ∀ (l : List S70) (acc : List (ByteArray × ByteArray)), l.all prOk = true → parsAll (prTail l) acc = some (acc ++ l.map lowP) := by
  intro l
  induction l with
  | nil => intro acc _; rw [parsAll_end _ _ (by rfl), List.map_nil, List.append_nil]
  | cons p l ih =>
    intro acc h
    rw [List.all_cons, Bool.and_eq_true] at h
    have h1 := one_back p (prTail l) h.1 (tail_Tl l)
    have h0 : (prOne p ++ prTail l).size ≠ 0 := by have := (hd_some (hd_prOne p (prTail l))).1; omega
    show parsAll (prOne p ++ prTail l) acc = _
    rw [parsAll_step _ _ h0 (by rw [h1]), h1, ih _ h.2, List.map_cons, List.append_assoc]
    rfl
theorem parse_back (name : ByteArray) (l : List S70) (hn : tokenI name = true) (hl : l.all prOk = true) : parseP (prOut name l) = (lowS name, l.map lowP, 0) := by
  rw [prOut_tail]
  have hne := tok_ne hn
  have h6 : spn tcI (name ++ prTail l) = name.size := spn_app _ _ _ (tok_all hn) ((tail_Tl l).not _ (by decide))
  have hz : (name ++ prTail l).size ≠ 0 := by rw [ByteArray.size_append]; omega
  unfold parseP
  rw [if_neg hz, h6, if_neg hne, (cut_app name _).1, (cut_app name _).2, pars_back l [] hl]
  rfl
theorem print_true {name : ByteArray} {l : List S70} (h : (printV name l).2 = true) : tokenI name = true ∧ l.all prOk = true ∧ printV name l = (prOut name l, true) := by
  unfold printV at h ⊢
  by_cases hc : (tokenI name && l.all prOk) = true
  · rw [if_pos hc]
    rw [Bool.and_eq_true] at hc
    exact ⟨hc.1, hc.2, rfl⟩
  · rw [if_neg hc] at h; cases h
/-! What Parse tells may be printed. -/
theorem tc_low {x : Int} (h : tcI x = true) : tcI (lowI x) = true := by
  unfold lowI
  split
  · split
    · rename_i h1 h2
      have : decide (97 ≤ x + 32) = true ∧ decide (x + 32 ≤ 122) = true := ⟨decide_eq_true (by omega), decide_eq_true (by omega)⟩
      rw [tcI, this.1, this.2]; rfl
    · exact h
  · exact h
theorem tok_low {s : ByteArray} (h : tokenI s = true) : tokenI (lowS s) = true := by
  have ha := tok_all h
  have hne := tok_ne h
  rw [tokenI, lowS_bytes, Bool.and_eq_true]
  constructor
  · cases hb : bytesOf s with
    | nil => rw [← bytesOf_length, hb] at hne; exact absurd rfl hne
    | cons x l => rfl
  · rw [List.all_map, List.all_eq_true] at *
    exact fun x hx => tc_low (ha x hx)
theorem low_idem (s : ByteArray) : lowS (lowS s) = lowS s := by
  apply str_ext
  rw [lowS_bytes, lowS_bytes, List.map_map]
  apply List.map_congr_left
  intro x _
  exact low_low x
theorem tok_upto (s : ByteArray) (h : spn tcI s ≠ 0) : tokenI (upto s (spn tcI s)) = true := by
  have e : bytesOf (upto s (spn tcI s)) = (bytesOf s).takeWhile tcI := by
    rw [upto, bytesOf_cut, List.drop_zero, Nat.sub_zero, spn]
    exact tw_take _ _
  rw [tokenI, e, Bool.and_eq_true]
  constructor
  · cases hb : (bytesOf s).takeWhile tcI with
    | nil => rw [spn, hb] at h; exact absurd rfl h
    | cons x l => rfl
  · exact List.all_takeWhile
def okI (x : Int) : Bool := vaI x && (decide (0 ≤ x) && decide (x ≤ 255))
theorem qt_ok : ∀ (m : Nat) (cs : List Int), cs.length = m → (∀ x ∈ cs, 0 ≤ x ∧ x ≤ 255) → ∀ (out : List Int) (n : Nat) (r : List Int × Nat), out.all okI = true → qt out cs n = some r → r.1.all okI = true ∧ r.1.length ≤ out.length + cs.length := by
  intro m
  induction m using Nat.strongRecOn with
  | _ m ih =>
    intro cs hn hin out n r ho h
    match cs, hn, hin, h with
    | [], _, _, h => cases h
    | b :: cs, hn, hin, h =>
      rw [List.length_cons] at hn
      rw [qt_cons] at h
      by_cases h1 : b = 34
      · rw [if_pos h1] at h
        obtain rfl := Option.some.inj h
        exact ⟨ho, by show out.length ≤ _; omega⟩
      · rw [if_neg h1] at h
        by_cases h2 : b = 92
        · rw [if_pos h2] at h
          match cs, hn, hin, h with
          | [], _, _, h => cases h
          | d :: cs, hn, hin, h =>
            rw [List.length_cons] at hn
            simp only at h
            by_cases h3 : vaI d = true
            · rw [if_pos h3] at h
              have hd := hin d (by simp)
              have := ih cs.length (by omega) cs rfl (fun x hx => hin x (by simp [hx])) _ _ _ (by rw [List.all_append, ho]; simp [okI, h3, hd]) h
              rw [List.length_append, List.length_singleton] at this
              rw [List.length_cons, List.length_cons]
              exact ⟨this.1, by omega⟩
            · rw [if_neg h3] at h; cases h
        · rw [if_neg h2] at h
          by_cases h3 : vaI b = true
          · rw [if_pos h3] at h
            have hb := hin b (by simp)
            have := ih cs.length (by omega) cs rfl (fun x hx => hin x (by simp [hx])) _ _ _ (by rw [List.all_append, ho]; simp [okI, h3, hb]) h
            rw [List.length_append, List.length_singleton] at this
            rw [List.length_cons]
            exact ⟨this.1, by omega⟩
          · rw [if_neg h3] at h; cases h
theorem qs_ok (M : ByteArray) (h : (Q.quoted M).isSome = true) : valueI (qs M) = true ∧ (qs M).size ≤ M.size := by
  cases hq : Q.quoted M with
  | none => rw [hq] at h; cases h
  | some r =>
    have hl := bytesOf_length M
    have hin := bytes_in M
    have h2 := hq
    unfold Q.quoted at h2
    cases hb : bytesOf M with
    | nil => rw [hb] at h2; cases h2
    | cons b cs =>
      rw [hb] at h2 hl hin
      simp only at h2
      by_cases h1 : b = 34
      · rw [if_pos h1] at h2
        have hr := qt_ok _ cs rfl (fun x hx => hin x (by simp [hx])) _ _ _ (by rfl) h2
        have e : bytesOf (strOfNums r.1) = r.1 := bytesOf_strOf _ (fun x hx => by
          have := List.all_eq_true.1 hr.1 x hx
          simp only [okI, Bool.and_eq_true, decide_eq_true_eq] at this
          exact this.2)
        have e2 : qs M = strOfNums r.1 := by rw [qs, hq]
        rw [e2]
        constructor
        · rw [valueI, e, List.all_eq_true]
          intro x hx
          have := List.all_eq_true.1 hr.1 x hx
          simp only [okI, Bool.and_eq_true] at this
          exact this.1
        · rw [← bytesOf_length, e]
          rw [List.length_cons] at hl
          have := hr.2
          rw [List.length_nil] at this
          omega
      · rw [if_neg h1] at h2; cases h2
/-- What Parse tells of one parameter. -/
structure Good (n : Nat) (p : ByteArray × ByteArray) : Prop where
  ok : prOk (toS p) = true
  low : lowS p.1 = p.1
  s0 : p.1.size ≤ n
  s1 : p.2.size ≤ n
theorem valP_good (L : ByteArray) (h : (valP L).2.1 = true) : (decide ((valP L).1.size = 0) || qtOk (valP L).1) = true ∧ (valP L).1.size ≤ L.size := by
  have h1 := aft_size L
  have h2 : (ofs (aft L) 1).size ≤ (aft L).size := by rw [ofs, ByteArray.size_extract]; omega
  have h3 := aft_size (ofs (aft L) 1)
  unfold valP at h ⊢
  by_cases c : isAt (aft L) 61
  · rw [if_pos c] at h ⊢
    obtain ⟨M, hM⟩ : ∃ M, M = aft (ofs (aft L) 1) := ⟨_, rfl⟩
    rw [← hM] at h h3 ⊢
    by_cases c2 : spn tcI M = 0
    · rw [if_pos c2] at h ⊢
      have := qs_ok M h
      refine ⟨?_, by show (qs M).size ≤ _; omega⟩
      show (decide ((qs M).size = 0) || (tokenI (qs M) || valueI (qs M))) = true
      rw [this.1]; simp
    · rw [if_neg c2] at h ⊢
      refine ⟨?_, by show (upto M _).size ≤ _; rw [upto_size _ _ (spn_le _ _)]; have := spn_le tcI M; omega⟩
      show (decide ((upto M (spn tcI M)).size = 0) || (tokenI (upto M (spn tcI M)) || valueI (upto M (spn tcI M)))) = true
      rw [tok_upto M c2]; simp
  · rw [if_neg c]
    exact ⟨rfl, Nat.zero_le _⟩
theorem one_good (L : ByteArray) (h : (oneP L).bad = false) : Good L.size ((oneP L).name, (oneP L).value) := by
  obtain ⟨L2, hL2⟩ : ∃ L2, L2 = (if isAt (aft L) 59 then ofs (aft L) 1 else aft L) := ⟨_, rfl⟩
  obtain ⟨L3, hL3⟩ : ∃ L3, L3 = aft L2 := ⟨_, rfl⟩
  have e : oneP L = ⟨lowS (upto L3 (spn tcI L3)), (valP (ofs L3 (spn tcI L3))).1, (valP (ofs L3 (spn tcI L3))).2.2, !(decide (isAt (aft L) 59)) || (decide (spn tcI L3 = 0)) || !(valP (ofs L3 (spn tcI L3))).2.1⟩ := by
    subst hL3 hL2
    rfl
  obtain ⟨v, hve⟩ : ∃ v, v = valP (ofs L3 (spn tcI L3)) := ⟨_, rfl⟩
  rw [← hve] at e
  have e1 : (oneP L).name = lowS (upto L3 (spn tcI L3)) := by rw [e]
  have e2 : (oneP L).value = v.1 := by rw [e]
  have e3 : (oneP L).bad = (!(decide (isAt (aft L) 59)) || (decide (spn tcI L3 = 0)) || !v.2.1) := by rw [e]
  rw [e3] at h
  rw [e1, e2]
  clear e e1 e2 e3
  simp only [Bool.or_eq_false_iff, Bool.not_eq_false', decide_eq_false_iff_not] at h
  have hk := h.1.2
  have hle := spn_le tcI L3
  have h2 : L2.size ≤ (aft L).size := by
    rw [hL2]
    split
    · rw [ofs, ByteArray.size_extract]; omega
    · exact Nat.le_refl _
  have h1 := aft_size L
  have h3 : L3.size ≤ L2.size := by rw [hL3]; exact aft_size L2
  have hv := valP_good (ofs L3 (spn tcI L3)) (by rw [← hve]; exact h.2)
  rw [← hve] at hv
  have hz : (ofs L3 (spn tcI L3)).size ≤ L3.size := by rw [ofs_size _ _ hle]; omega
  have ht := tok_low (tok_upto L3 hk)
  have hs := lowS_size (upto L3 (spn tcI L3))
  rw [upto_size _ _ hle] at hs
  have hid := low_idem (upto L3 (spn tcI L3))
  generalize lowS (upto L3 (spn tcI L3)) = N at ht hs hid ⊢
  refine ⟨?_, hid, ?_, ?_⟩
  · show (tokenI N && (decide (v.1.size = 0) || qtOk v.1)) = true
    rw [ht, hv.1]; rfl
  · show N.size ≤ L.size
    omega
  · show v.1.size ≤ L.size
    omega
theorem pars_good (N : Nat) : ∀ (n : Nat) (L : ByteArray) (l r : List (ByteArray × ByteArray)), L.size ≤ n → L.size ≤ N → (∀ p ∈ l, Good N p) → parsAll L l = some r → ∀ p ∈ r, Good N p := by
  intro n
  induction n with
  | zero =>
    intro L l r h hN hl hr
    rw [parsAll_end L l (by omega)] at hr
    obtain rfl := Option.some.inj hr
    exact hl
  | succ n ih =>
    intro L l r h hN hl hr
    by_cases h0 : L.size = 0
    · rw [parsAll_end L l h0] at hr
      obtain rfl := Option.some.inj hr
      exact hl
    · cases hb : (oneP L).bad with
      | true => rw [parsAll_bad L l h0 hb] at hr; cases hr
      | false =>
        have hz := (oneP_size L).2 hb
        rw [parsAll_step L l h0 hb] at hr
        refine ih _ _ _ (by omega) (by omega) ?_ hr
        intro p hp
        rw [List.mem_append, List.mem_singleton] at hp
        rcases hp with hp | rfl
        · exact hl p hp
        · have := one_good L hb
          exact ⟨this.ok, this.low, by have := this.s0; omega, by have := this.s1; omega⟩
theorem parse_good (s : ByteArray) (h : (parseP s).2.2 = 0) : tokenI (parseP s).1 = true ∧ lowS (parseP s).1 = (parseP s).1 ∧ (parseP s).1.size ≤ s.size ∧ ∀ p ∈ (parseP s).2.1, Good s.size p := by
  unfold parseP at h ⊢
  by_cases h0 : s.size = 0
  · rw [if_pos h0] at h; cases h
  · rw [if_neg h0] at h ⊢
    by_cases c : spn tcI s = 0
    · rw [if_pos c] at h; cases h
    · rw [if_neg c] at h ⊢
      have hle := spn_le tcI s
      cases hp : parsAll (ofs s (spn tcI s)) [] with
      | none => rw [hp] at h; cases h
      | some l =>
        simp only
        refine ⟨tok_low (tok_upto s c), low_idem _, ?_, ?_⟩
        · show (lowS _).size ≤ _
          rw [lowS_size, upto_size _ _ hle]; omega
        · exact pars_good s.size _ _ _ _ (Nat.le_refl _) (by rw [ofs_size _ _ hle]; omega) (fun p hp => by cases hp) hp
theorem parse_err (s : ByteArray) (h : (parseP s).2.2 ≠ 0) : (parseP s).1 = ⟨#[]⟩ ∧ (parseP s).2.1 = [] := by
  unfold parseP at h ⊢
  by_cases h0 : s.size = 0
  · rw [if_pos h0]; exact ⟨rfl, rfl⟩
  · rw [if_neg h0] at h ⊢
    by_cases c : spn tcI s = 0
    · rw [if_pos c]; exact ⟨rfl, rfl⟩
    · rw [if_neg c] at h ⊢
      cases hp : parsAll (ofs s (spn tcI s)) [] with
      | none => exact ⟨rfl, rfl⟩
      | some l => rw [hp] at h; exact absurd rfl h
/-- What is read, printed, and read again. -/
theorem again (s : ByteArray) (hs : s.size ≤ 1000) (h : (parseP s).2.2 = 0) : printV (parseV s).1 (parseV s).2.1 = (prOut (parseV s).1 (parseV s).2.1, true) ∧ parseV (prOut (parseV s).1 (parseV s).2.1) = parseV s ∧ Mid (parseV s).2.1 ∧ (parseV s).1.size ≤ 1000 := by
  obtain ⟨h1, h2, h3, h4⟩ := parse_good s h
  have hlen := parse_len s
  have hall : ((parseP s).2.1.map toS).all prOk = true := by
    rw [List.all_map, List.all_eq_true]
    exact fun p hp => (h4 p hp).ok
  have hp : printV (parseV s).1 (parseV s).2.1 = (prOut (parseV s).1 (parseV s).2.1, true) := by
    show (if (tokenI (parseP s).1 && ((parseP s).2.1.map toS).all prOk) = true then _ else _) = _
    rw [h1, hall]
    rfl
  refine ⟨hp, ?_, ⟨?_, ?_⟩, ?_⟩
  · show ((parseP (prOut (parseP s).1 ((parseP s).2.1.map toS))).1, (parseP (prOut (parseP s).1 ((parseP s).2.1.map toS))).2.1.map toS, (parseP (prOut (parseP s).1 ((parseP s).2.1.map toS))).2.2) = _
    rw [parse_back _ _ h1 hall]
    show (lowS (parseP s).1, (((parseP s).2.1.map toS).map lowP).map toS, (0 : Int)) = ((parseP s).1, (parseP s).2.1.map toS, (parseP s).2.2)
    rw [h2, h, List.map_map, List.map_map]
    congr 2
    apply List.map_congr_left
    intro p hp
    show toS (lowS p.1, p.2) = toS p
    rw [(h4 p hp).low]
  · show ((parseP s).2.1.map toS).length ≤ 1000
    rw [List.length_map]; omega
  · intro p hp
    have hp : p ∈ (parseP s).2.1.map toS := hp
    rw [List.mem_map] at hp
    obtain ⟨q, hq, rfl⟩ := hp
    have := h4 q hq
    exact ⟨by have := this.s0; show q.1.size ≤ _; omega, by have := this.s1; show q.2.size ≤ _; omega⟩
  · show (parseP s).1.size ≤ 1000
    omega
theorem out_size {n : ByteArray} {l : List S70} (hn : n.size ≤ 1000) (hl : Mid l) : (prOut n l).size ≤ 100000000 := by
  have := prOut_size l n hl.2
  have := hl.1
  omega
theorem back_j2 (s : ByteArray) (hs : s.size ≤ 1000) : Ev (fun k => abutmentlaw08_ParamsBack.j2 k s) true := by
  have hf := parse_f s (by omega)
  have hL := Ev.bind (f := fun _ t => some t) lives8_ev (Ev.now true)
  by_cases h : (parseV s).2.2 = 0
  · obtain ⟨h1, h2, h3, h4⟩ := again s hs h
    have hpr := print_ev _ _ h4 h3
    rw [h1] at hpr
    have hf2 := parse_f _ (out_size h4 h3)
    rw [h2] at hf2
    have hll : (parseV s).2.1.length ≤ 1000000 := by have := h3.1; omega
    obtain ⟨V, hV⟩ : ∃ V, V = parseV s := ⟨_, rfl⟩
    rw [← hV] at hf hf2 hpr h hll
    clear h1 h2 h3 h4 hV
    refine Ev.step (f := fun k => (params_Print.f k V.1 V.2.1).bind fun bt168 => ((params_Parse.f bt168.1).bind fun bt170 => (if bt168.2 = true then (if bt170.1.toList = V.1.toList then ((abutmentref08_Same.f k bt170.2.1 V.2.1).bind fun t175 => (if t175 = true then (if bt170.2.2 = 0 then ((abutmentlaw08_lives.f k).bind fun t176 => (some t176)) else (some false)) else (some false))) else (some false)) else (some false)))) (fun k => ?_) (Ev.bind hpr ?_)
    · simp only [abutmentlaw08_ParamsBack.j2, hf, Option.bind_some]
      rw [if_pos h]
    · simp only [hf2, Option.bind_some]
      refine ev_pos trivial (ev_pos trivial (Ev.bind (rsame_ev _ hll) (ev_pos rfl (ev_pos h hL))))
  · have he := parse_err s h
    have e1 : (parseV s).1.toList = ([] : List UInt8) := by show (parseP s).1.toList = _; rw [he.1]; exact (nil_iff _).2 rfl
    have e2 : ((parseV s).2.1.length : Int) = 0 := by show (((parseP s).2.1.map toS).length : Int) = 0; rw [he.2]; rfl
    obtain ⟨V, hV⟩ : ∃ V, V = parseV s := ⟨_, rfl⟩
    rw [← hV] at hf h e1 e2
    clear he hV
    refine Ev.step (f := fun k => (abutmentlaw08_lives.f k).bind fun t167 => (some t167)) (fun k => ?_) hL
    simp only [abutmentlaw08_ParamsBack.j2, hf, Option.bind_some]
    rw [if_neg h, if_pos e1, if_pos e2]
theorem back_l0 (l : List S70) (hl : Mid l) (s : ByteArray) (hs : s.size ≤ 1000) : ∀ n i : Nat, l.length - i = n → i ≤ l.length → Ev (fun k => abutmentlaw08_ParamsBack.l0 k l s ((l.map lowP).map toS) (((l.map lowP).map toS).length : Int) (i : Int)) true := by
  have hm : ((l.map lowP).map toS).length = l.length := by rw [List.length_map, List.length_map]
  intro n
  induction n with
  | zero =>
    intro i hn hi
    refine Ev.step (f := fun k => abutmentlaw08_ParamsBack.j2 k s) (fun k => ?_) (back_j2 s hs)
    simp only [abutmentlaw08_ParamsBack.l0]; rw [if_neg (by omega)]
  | succ n ih =>
    intro i hn hi
    have hi' : i < l.length := by omega
    have hl1 := hl.1
    obtain ⟨p, hp⟩ : ∃ p, p = l[i] := ⟨_, rfl⟩
    have hrd : rd_T70 l (i : Int) = p := by rw [rd_at l i hi', hp]
    have hrd2 : rd_T70 ((l.map lowP).map toS) (i : Int) = toS (lowP p) := by
      rw [rd_at _ i (by omega)]
      simp [hp]
    have hb := hl.2 p (by rw [hp]; exact List.getElem_mem hi')
    have e1 : wrap64 ((i : Int) + 1) = ((i + 1 : Nat) : Int) := by rw [wI _ (by omega) (by omega)]; omega
    have hrl := rlower_ev p.f0 (by omega)
    refine Ev.step (f := fun k => (abutmentref01_Lower.f k p.f0).bind fun t159 => (if (toS (lowP p)).f0.toList = t159.toList then (if (toS (lowP p)).f1.toList = p.f1.toList then (abutmentlaw08_ParamsBack.l0 k l s ((l.map lowP).map toS) (((l.map lowP).map toS).length : Int) ((i + 1 : Nat) : Int)) else (some false)) else (some false))) (fun k => ?_) (Ev.bind hrl (ev_pos rfl (ev_pos rfl (ih (i + 1) (by omega) (by omega)))))
    simp only [abutmentlaw08_ParamsBack.l0, hrd, hrd2]
    rw [if_pos (by omega), if_pos (by omega), if_pos (by omega), if_pos (by omega), e1]
theorem params_back (a0 : ByteArray) (l : List S70) (a2 : ByteArray) : Ev (fun k => abutmentlaw08_ParamsBack.f k a0 l a2) true := by
  have hm := mn_60 a0.size
  have hm2 := mn_1000 a2.size
  obtain ⟨n, hn⟩ : ∃ n, n = a0.extract 0 (mn (a0.size : Int) 60).toNat := ⟨_, rfl⟩
  obtain ⟨s, hs⟩ : ∃ s, s = a2.extract 0 (mn (a2.size : Int) 1000).toNat := ⟨_, rfl⟩
  have hz : n.size ≤ 60 := by rw [hn, ByteArray.size_extract]; omega
  have hz2 : s.size ≤ 1000 := by rw [hs, ByteArray.size_extract]; omega
  unfold abutmentlaw08_ParamsBack.f
  rw [← hs, ← hn]
  refine ev_pos hm.1 (ev_pos hm.2.1 (ev_pos hm2.1 (ev_pos hm2.2.1 (Ev.bind (few_ev l) ?_))))
  cases hf : fewB l with
  | false => exact ev_neg (by simp) (Ev.bind lives8_ev (Ev.now _))
  | true =>
    have hmid := few_mid hf
    refine ev_pos rfl (Ev.bind (print_ev n l (by omega) hmid) ?_)
    cases hp : (printV n l).2 with
    | false => exact ev_neg (by simp) (back_j2 s hz2)
    | true =>
      obtain ⟨h1, h2, h3⟩ := print_true hp
      have hpf := parse_f _ (out_size (n := n) (by omega) hmid)
      have hpb := parse_back n l h1 h2
      have e : parseV (prOut n l) = (lowS n, (l.map lowP).map toS, 0) := by
        show ((parseP (prOut n l)).1, (parseP (prOut n l)).2.1.map toS, (parseP (prOut n l)).2.2) = _
        rw [hpb]
      rw [e] at hpf
      rw [h3]
      simp only [hpf, Option.bind_some]
      refine ev_pos trivial (Ev.bind (rlower_ev n (by omega)) (ev_pos rfl (ev_pos (by rw [List.length_map, List.length_map]) ?_)))
      have hl0 := back_l0 l hmid s hz2 _ 0 rfl (Nat.zero_le _)
      refine Ev.step (f := fun k => abutmentlaw08_ParamsBack.l0 k l s ((l.map lowP).map toS) (((l.map lowP).map toS).length : Int) ((0 : Nat) : Int)) (fun k => ?_) hl0
      simp only [abutmentlaw08_ParamsBack.j0]
      rw [if_neg (by decide)]
      rfl
theorem back_walk (a0 : ByteArray) (A : Option Addr) (L C : Nat) (l : List S70) (a2 : ByteArray) (W : World) (hs : a0.size ≤ 140737488351232) (h : Came70 W A L C l) (hs2 : a2.size ≤ 140737488351232) : Calls Try.prog 15 #[.string a0, .slice A L C, .string a2] W fun e w' => e = .returned (.bool true) ∧ Below W.heap.size W w' := by
  obtain ⟨hl, hc, _, hr⟩ := h
  subst hl
  obtain ⟨k, hk⟩ := (params_back a0 l a2).rounds
  exact abutmentlaw08_ParamsBack.calls k a0 A C l a2 true W hr hc hk
end Go.Proofs.Ytbelgmfhaddhmaa.Pure
