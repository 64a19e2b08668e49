/- Conditions and facts: the two readings agree: over the printed functions. -/
import Derived.Test.YtcljnjnlafkieaaGreatDoorRCTrTree
import Derived.Test.YtcljnjnlafkieaaGreatDoorRPPLNx5
import Derived.Test.YtcljnjnlafkieaaGreatDoorRPPLNx8
import Derived.Test.YtcljnjnlafkieaaGreatDoorRPPLNx9
import Derived.Test.YtcljnjnlafkieaaGreatDoorRPPLNx7
import Derived.Test.YtcljnjnlafkieaaGreatDoorRPPLNx3
import Derived.Test.YtcljnjnlafkieaaGreatDoorRPPLNx16
import Derived.Test.YtcljnjnlafkieaaGreatDoorRPPLNx13
import Derived.Test.YtcljnjnlafkieaaGreatDoorRPPLNx15
import Derived.Test.YtcljnjnlafkieaaGreatDoorRPPLNx20
namespace Go.Proofs.YtcljnjnlafkieaaGreatDoorR.CTr
open Go Go.RowKit Go.Proofs.YtcljnjnlafkieaaGreatDoorR.PPLN Go.Proofs.YtcljnjnlafkieaaGreatDoorRW.PrintWords Go.Proofs.YtcljnjnlafkieaaGreatDoorRW.PrintLast
theorem bt_get (s : ByteArray) (i : Nat) (h : i < s.size) : bt s i = ((L s)[i]'(by rw [L_len]; exact h)).toNat := by
  unfold bt
  rw [dif_pos (by simpa using h)]
  rfl
theorem bt_drop (s : ByteArray) (i : Nat) (c : UInt8) (r : List UInt8) (h : (L s).drop i = c :: r) : bt s i = c.toNat := by
  have hl := L_len s
  have hi : i < s.size := by
    rcases Nat.lt_or_ge i s.size with q | q
    · exact q
    · rw [List.drop_of_length_le (by omega)] at h; cases h
  rw [bt_get s i hi]
  have : (L s)[i]'(by rw [hl]; exact hi) = c := by
    have := List.getElem_drop (xs := L s) (i := i) (j := 0) (h := by rw [h]; simp)
    simp [h] at this
    exact this.symm
  rw [this]
theorem bt_head (s : ByteArray) (c : UInt8) (r : List UInt8) (h : L s = c :: r) : bt s 0 = c.toNat := by
  have hl := L_len s
  rw [h] at hl
  unfold bt
  have h0 : (0 : Int).toNat < s.size := by simp at hl ⊢; omega
  rw [dif_pos h0]
  have : s[(0 : Int).toNat]'h0 = (L s)[0]'(by rw [h]; simp) := rfl
  rw [this]
  simp [h]
theorem drop_cons {s : ByteArray} {p : Nat} {c : UInt8} {r : List UInt8} (h : (L s).drop p = c :: r) : p < s.size ∧ (L s).drop (p + 1) = r ∧ bt s (p : Int) = c.toNat ∧ s.size - p = r.length + 1 := by
  have hl := L_len s
  have hlen := congrArg List.length h
  rw [List.length_drop, hl, List.length_cons] at hlen
  refine ⟨by omega, by rw [← List.drop_drop, h]; rfl, bt_drop s p c r h, hlen⟩
theorem small_some (c : UInt8) : tollbookref12_Small.f (c.toNat : Int) = some (lo c) := by
  unfold tollbookref12_Small.f lo
  by_cases h : 97 ≤ c.toNat
  · rw [if_pos (by omega), decide_eq_true h, Bool.true_and]
    exact congrArg some (decide_eq_decide.2 (by omega))
  · rw [if_neg (by omega), decide_eq_false h, Bool.false_and]
theorem digit_some (c : UInt8) : tollbookref12_digit.f (c.toNat : Int) = some (dg c) := by
  unfold tollbookref12_digit.f dg
  by_cases h : 48 ≤ c.toNat
  · rw [if_pos (by omega), decide_eq_true h, Bool.true_and]
    exact congrArg some (decide_eq_decide.2 (by omega))
  · rw [if_neg (by omega), decide_eq_false h, Bool.false_and]
theorem within_some (c : UInt8) : tollbookref12_within.f (c.toNat : Int) = some (wi c) := by
  unfold tollbookref12_within.f wi
  rw [small_some, Option.bind_some]
  by_cases h : lo c = true
  · rw [if_pos h, h]; rfl
  · rw [if_neg h, digit_some, Option.bind_some, Bool.eq_false_iff.2 h]
    by_cases h2 : dg c = true
    · rw [if_pos h2, h2]; rfl
    · rw [if_neg h2, Bool.eq_false_iff.2 h2]
      have e : ((c.toNat : Int) == 95) = decide (c.toNat = 95) := by
        rw [Bool.eq_iff_iff, beq_iff_eq, decide_eq_true_iff]; omega
      rw [e]; rfl
theorem refpart_loop (s : ByteArray) (hs : s.size ≤ 1000) : ∀ (m i k : Nat), i + m = s.size → tollbookref12_part.l0 (k + m + 1) s (i : Int) = some ((i + run wi ((L s).drop i) : Nat) : Int)
  | 0, i, k, hi => by
    have hl := L_len s
    rw [tollbookref12_part.l0, if_neg (by omega), List.drop_of_length_le (by omega), run_nil]; rfl
  | m + 1, i, k, hi => by
    have hlt : i < (L s).length := by rw [L_len]; omega
    have hd := List.drop_eq_getElem_cons hlt
    obtain ⟨c, hc⟩ : ∃ c, (L s)[i] = c := ⟨_, rfl⟩
    rw [hc] at hd
    obtain ⟨_, _, hb, _⟩ := drop_cons hd
    rw [show k + (m + 1) + 1 = (k + m + 1) + 1 from by omega, tollbookref12_part.l0, if_pos (by omega), if_pos (by omega), hb, within_some, Option.bind_some, hd, run_cons]
    by_cases h : wi c = true
    · rw [if_pos h, if_pos h, wrap_add1 i (by omega), refpart_loop s hs m (i + 1) k (by omega)]
      exact congrArg some (by omega)
    · rw [if_neg h, if_neg h]; rfl
theorem refpart_some (s : ByteArray) (hs : s.size ≤ 1000) (k : Nat) (hk : s.size + 2 ≤ k) : tollbookref12_part.f k s = some ((part (L s) : Nat) : Int) := by
  have hl := L_len s
  obtain ⟨k, rfl⟩ : ∃ j, k = j + s.size + 2 := ⟨k - s.size - 2, by omega⟩
  unfold tollbookref12_part.f
  cases hx : L s with
  | nil =>
    have h0 : s.size = 0 := by rw [hx] at hl; exact hl.symm
    rw [if_pos (by omega), tollbookref12_part.j0, if_pos rfl]; rfl
  | cons c r =>
    have h0 : s.size = r.length + 1 := by rw [hx] at hl; exact hl.symm
    have hd1 : (L s).drop 1 = r := by rw [hx]; rfl
    rw [if_neg (by omega), if_pos (by omega), bt_head s c r hx, small_some, Option.bind_some, tollbookref12_part.j0]
    by_cases h : lo c = true
    · have hw : wi c = true := by simp [wi, h]
      have := refpart_loop s hs r.length 1 (k + 1) (by omega)
      rw [hd1] at this
      rw [if_neg (by simp [h]), show k + s.size + 1 = k + 1 + r.length + 1 from by omega]
      refine Eq.trans this (congrArg some ?_)
      unfold part
      rw [run_cons, run_cons, if_pos h, if_pos hw, if_neg (by omega)]
      omega
    · rw [if_pos (by simp [h])]
      unfold part
      rw [run_cons, if_neg h, if_pos rfl]; rfl
theorem kept_loop (s : ByteArray) : ∀ (m i k : Nat), i + m = 29 → tollbookref12_kept.l0 (k + m + 1) s keptW (i : Int) = some ((List.range' i m).any fun j => L (wordAt j) == L s)
  | 0, i, k, hi => by
    have hl : keptW.length = 29 := rfl
    rw [tollbookref12_kept.l0, if_neg (by omega)]; rfl
  | m + 1, i, k, hi => by
    have hl : keptW.length = 29 := rfl
    rw [show k + (m + 1) + 1 = (k + m + 1) + 1 from by omega, tollbookref12_kept.l0, if_pos (by omega), if_pos (by omega), List.range'_succ, List.any_cons]
    have e : rdOf ByteArray.empty keptW (i : Int) = wordAt i := rfl
    rw [e, Lib.toList_data, Lib.toList_data]
    by_cases h : L (wordAt i) = L s
    · rw [if_pos h, beq_iff_eq.2 h]; rfl
    · rw [if_neg h, beq_eq_false_iff_ne.2 h, Bool.false_or, wrap_add1 i (by omega)]
      exact kept_loop s m (i + 1) k (by omega)
theorem kept_some (s : ByteArray) (k : Nat) (hk : 30 ≤ k) : tollbookref12_kept.f k s = some (amongW 29 (L s)) := by
  obtain ⟨k, rfl⟩ : ∃ j, k = j + 29 + 1 := ⟨k - 30, by omega⟩
  have := kept_loop s 29 0 k rfl
  rw [← List.range_eq_range'] at this
  exact this
theorem refword_some (s : ByteArray) (k : Nat) (hk : 100 ≤ k) : tollbookref12_Word.f k s = some (nameOk (L s)) := by
  have hl := L_len s
  unfold tollbookref12_Word.f nameOk
  by_cases h0 : 0 < s.size
  · rw [if_pos (by omega)]
    by_cases h1 : s.size ≤ 24
    · have hd : 0 < (L s).length := by omega
      have hd2 : (L s).length ≤ 24 := by omega
      rw [if_pos (by omega), refpart_some s (by omega) k (by omega), Option.bind_some, decide_eq_true hd, decide_eq_true hd2]
      by_cases h2 : part (L s) = (L s).length
      · rw [if_pos (by omega), decide_eq_true h2, kept_some s k (by omega)]; rfl
      · rw [if_neg (by omega), decide_eq_false h2]; rfl
    · rw [if_neg (by omega)]; simp; omega
  · rw [if_neg (by omega)]; simp; omega
theorem refdec_some (u p : Int) : tollbookref06_Check.f u p = some (if decB u p = true then 0 else 60) := by
  have := dec_some u p
  unfold decimal_Check.f at this
  unfold tollbookref06_Check.f
  exact this
theorem zero_two (e f : Int) : (e == 0 && (f == 0)) = (decide (e = 0) && decide (f = 0)) := rfl
theorem bare_ifs (c : ByteArray) (d e f : Int) : (if c.toList = ([] : List UInt8) then (if d = 0 then (some (e == 0 && (f == 0))) else (some false)) else (some false)) = some (decide (c.size = 0) && (decide (d = 0) && (decide (e = 0) && decide (f = 0)))) := by
  by_cases h1 : c.size = 0
  · rw [if_pos ((nil_iff' c).2 h1), decide_eq_true h1, Bool.true_and]
    by_cases h2 : d = 0
    · rw [if_pos h2, decide_eq_true h2, Bool.true_and]; rfl
    · rw [if_neg h2, decide_eq_false h2, Bool.false_and]
  · rw [if_neg (fun q => h1 ((nil_iff' c).1 q)), decide_eq_false h1, Bool.false_and]
theorem single_some (K : Nat) (hK : 110 ≤ K) (m : S45) : tollbookref13_single.f K m.f0 m.f1 m.f2 m.f3 m.f4.f0 m.f4.f1 = some (fmB m) := by
  obtain ⟨k, rfl⟩ : ∃ j, K = j + 2 := ⟨K - 2, by omega⟩
  obtain ⟨a, b, c, d, ⟨e, f⟩⟩ := m
  unfold fmB bareB
  simp only []
  have hj1 : ∀ y, y = decide (a = 4 ∨ a = 5) → ¬ (a = 1 ∨ a = 2) → ¬ a = 3 → tollbookref13_single.j1 (k + 1) a y a b c d e f 0 0 = some (if a = 4 ∨ a = 5 then decide (b = 0) && (decide (d = 0) && (decide (e = 0) && (decide (f = 0) && nameOk (L c)))) else if a = 6 ∨ a = 7 then decide (b = 0) && (decide (c.size = 0) && (decide (1 ≤ d) && (decide (d ≤ 4) && (decide (0 ≤ e) && decB e f)))) else false) := by
    intro y hy _ _
    rw [tollbookref13_single.j1, hy]
    have h67 : (if b = 0 then (if c.toList = ([] : List UInt8) then (if d ≥ 1 then (if d ≤ 4 then (if e ≥ 0 then ((tollbookref06_Check.f e f).bind fun t => (some (t == 0))) else (some false)) else (some false)) else (some false)) else (some false)) else (some false)) = some (decide (b = 0) && (decide (c.size = 0) && (decide (1 ≤ d) && (decide (d ≤ 4) && (decide (0 ≤ e) && decB e f))))) := by
      by_cases h1 : b = 0
      · rw [if_pos h1, decide_eq_true h1, Bool.true_and]
        by_cases h2 : c.size = 0
        · rw [if_pos ((nil_iff' c).2 h2), decide_eq_true h2, Bool.true_and]
          by_cases h3 : d ≥ 1
          · rw [if_pos h3, decide_eq_true h3, Bool.true_and]
            by_cases h4 : d ≤ 4
            · rw [if_pos h4, decide_eq_true h4, Bool.true_and]
              by_cases h5 : e ≥ 0
              · rw [if_pos h5, decide_eq_true h5, Bool.true_and, refdec_some, Option.bind_some, dec_zero]
              · rw [if_neg h5, decide_eq_false h5, Bool.false_and]
            · rw [if_neg h4, decide_eq_false h4, Bool.false_and]
          · rw [if_neg h3, decide_eq_false h3, Bool.false_and]
        · rw [if_neg (fun q => h2 ((nil_iff' c).1 q)), decide_eq_false h2, Bool.false_and]
      · rw [if_neg h1, decide_eq_false h1, Bool.false_and]
    by_cases h45 : a = 4 ∨ a = 5
    · rw [decide_eq_true h45, if_pos rfl, if_pos h45, refword_some c k (by omega), Option.bind_some]
      by_cases h1 : b = 0
      · rw [if_pos h1, decide_eq_true h1, Bool.true_and]
        cases hn : nameOk (L c) with
        | true =>
          rw [if_pos rfl]
          by_cases h2 : d = 0
          · rw [if_pos h2, decide_eq_true h2, Bool.true_and, zero_two, Bool.and_true]
          · rw [if_neg h2, decide_eq_false h2, Bool.false_and]
        | false => rw [if_neg Bool.false_ne_true, Bool.and_false, Bool.and_false, Bool.and_false]
      · rw [if_neg h1, decide_eq_false h1, Bool.false_and]
    · rw [decide_eq_false h45, if_neg Bool.false_ne_true, if_neg h45]
      by_cases h6 : a = 6
      · rw [if_pos h6, if_pos (Or.inl h6)]; exact h67
      · rw [if_neg h6]
        by_cases h7 : a = 7
        · rw [if_pos h7, if_pos (Or.inr h7)]; exact h67
        · rw [if_neg h7, if_neg (by omega)]
  have hj0 : ∀ x, x = decide (a = 1 ∨ a = 2) → tollbookref13_single.j0 (k + 2) a x a b c d e f 0 0 = some (if a = 1 ∨ a = 2 then (decide (c.size = 0) && (decide (d = 0) && (decide (e = 0) && decide (f = 0)))) && decide (2 ≤ b) else if a = 3 then (decide (c.size = 0) && (decide (d = 0) && (decide (e = 0) && decide (f = 0)))) && decide (b = 1) else if a = 4 ∨ a = 5 then decide (b = 0) && (decide (d = 0) && (decide (e = 0) && (decide (f = 0) && nameOk (L c)))) else if a = 6 ∨ a = 7 then decide (b = 0) && (decide (c.size = 0) && (decide (1 ≤ d) && (decide (d ≤ 4) && (decide (0 ≤ e) && decB e f)))) else false) := by
    intro x hx
    rw [tollbookref13_single.j0, hx, bare_ifs]
    by_cases h12 : a = 1 ∨ a = 2
    · rw [decide_eq_true h12, if_pos rfl, if_pos h12]
      by_cases h2 : b ≥ 2
      · rw [if_pos h2, decide_eq_true h2, Bool.and_true]
      · rw [if_neg h2, decide_eq_false h2, Bool.and_false]
    · rw [decide_eq_false h12, if_neg Bool.false_ne_true, if_neg h12]
      by_cases h3 : a = 3
      · rw [if_pos h3, if_pos h3]
        by_cases h2 : b = 1
        · rw [if_pos h2, decide_eq_true h2, Bool.and_true]
        · rw [if_neg h2, decide_eq_false h2, Bool.and_false]
      · rw [if_neg h3, if_neg h3]
        by_cases h4 : a = 4
        · rw [if_pos h4, hj1 _ (by rw [h4]; rfl) h12 h3]
        · rw [if_neg h4, hj1 _ (by rw [show (a == 5) = decide (a = 5) from rfl]; exact decide_eq_decide.2 ⟨Or.inr, fun q => q.resolve_left h4⟩) h12 h3]
  unfold tollbookref13_single.f
  by_cases h1 : a = 1
  · rw [if_pos h1, hj0 _ (by rw [h1]; rfl)]
  · rw [if_neg h1, hj0 _ (by rw [show (a == 2) = decide (a = 2) from rfl]; exact decide_eq_decide.2 ⟨Or.inr, fun q => q.resolve_left h1⟩)]
mutual
def Tr.toS : Tr → S51
  | .mk n ks => ⟨n, toSs ks⟩
def toSs : List Tr → List S51
  | [] => []
  | t :: ts => t.toS :: toSs ts
end
def Tr.root : Tr → S45
  | .mk n _ => n
abbrev GR := Int × Int × ByteArray × Int × Int × Int × (List S51) × Int
def resV (m : S45) (ks : List S51) (j : Int) : GR := (m.f0, m.f1, m.f2, m.f3, m.f4.f0, m.f4.f1, ks, j)
def failV : GR := (0, 0, (⟨#[]⟩ : ByteArray), 0, 0, 0, [], -1)
def Grown (F : S45 → Bool) (l : List S45) (deep : Int) (i : Nat) (x : Option GR) : Prop :=
  (∃ m ts, ∃ j : Nat, x = some (resV m (toSs ts) (j : Int)) ∧ Tr.wf F deep 0 (.mk m ts) ∧ l.drop i = (Tr.mk m ts).flat ++ l.drop j ∧ i < j ∧ j ≤ l.length) ∨ (x = some failV ∧ ¬ ∃ t r, Tr.wf F deep 0 t ∧ l.drop i = t.flat ++ r)
theorem fmB_zero (m : S45) (h : fmB m = true) : m.f0 ≠ 0 := by
  intro e
  unfold fmB at h
  rw [e, if_neg (by omega), if_neg (by omega), if_neg (by omega), if_neg (by omega)] at h
  cases h
theorem fmB_par (m : S45) (h : fmB m = true) (h1 : 0 < m.f1) : m.f0 = 1 ∨ m.f0 = 2 ∨ m.f0 = 3 := by
  unfold fmB at h
  by_cases a : m.f0 = 1 ∨ m.f0 = 2
  · rcases a with a | a
    · exact Or.inl a
    · exact Or.inr (Or.inl a)
  · rw [if_neg a] at h
    by_cases b : m.f0 = 3
    · exact Or.inr (Or.inr b)
    · rw [if_neg b] at h
      split at h
      · simp only [Bool.and_eq_true, decide_eq_true_iff] at h; omega
      · split at h
        · simp only [Bool.and_eq_true, decide_eq_true_iff] at h; omega
        · cases h
theorem wf_zero (deep under : Int) (m : S45) (ts : List Tr) : Tr.wf fmB deep under (.mk m ts) ↔ Tr.wf fmB deep 0 (.mk m ts) ∧ ¬ (m.f0 = under ∧ under ≠ 3) := by
  rw [Tr.wf, Tr.wf]
  constructor
  · rintro ⟨h1, h2, h3, h4, h5⟩
    exact ⟨⟨h1, h2, fun q => fmB_zero m h2 q.1, h4, h5⟩, h3⟩
  · rintro ⟨⟨h1, h2, _, h4, h5⟩, h3⟩
    exact ⟨h1, h2, h3, h4, h5⟩
section
variable (l : List S45) (hl : l.length ≤ 64)
include hl
set_option maxHeartbeats 1000000 in
theorem refkids (deep : Int) (hd0 : 1 ≤ deep) (hd : deep ≤ 16) (m : S45) (hm : fmB m = true) (Kg : Nat) (hG : ∀ i, i ≤ l.length → ∀ K, Kg ≤ K → Grown fmB l (deep + 1) i (tollbookref13_grown.f K l (i : Int) (deep + 1))) :
    ∀ (n i c K : Nat) (acc : List S51), l.length - i ≤ n → i ≤ l.length → c ≤ i → (c : Int) ≤ m.f1 → acc.length = c → Kg + n + 2 ≤ K →
      (∃ ts, ∃ j : Nat, tollbookref13_grown.l0 K l (i : Int) deep (c : Int) m.f0 m.f1 m.f2 m.f3 m.f4.f0 m.f4.f1 m.f0 m.f1 m.f2 m.f3 m.f4.f0 m.f4.f1 acc = some (resV m (acc ++ toSs ts) (j : Int)) ∧ (ts.length : Int) = m.f1 - c ∧ wfs fmB (deep + 1) m.f0 ts ∧ l.drop i = flats ts ++ l.drop j ∧ i ≤ j ∧ j ≤ l.length) ∨
      (tollbookref13_grown.l0 K l (i : Int) deep (c : Int) m.f0 m.f1 m.f2 m.f3 m.f4.f0 m.f4.f1 m.f0 m.f1 m.f2 m.f3 m.f4.f0 m.f4.f1 acc = some failV ∧ ¬ ∃ ts r, (ts.length : Int) = m.f1 - c ∧ wfs fmB (deep + 1) m.f0 ts ∧ l.drop i = flats ts ++ r) := by
  intro n
  induction n with
  | zero =>
    intro i c K acc hn hi hci hc ha hK
    obtain ⟨K, rfl⟩ : ∃ j, K = j + 1 := ⟨K - 1, by omega⟩
    rw [tollbookref13_grown.l0]
    by_cases h1 : (c : Int) < m.f1
    · rw [if_pos h1, wrap_id (x := deep + 1) (by omega) (by omega)]
      rcases hG i hi K (by omega) with ⟨m2, ts2, j, e, hw2, hd2, hij, hj⟩ | ⟨e, hno⟩
      · omega
      · rw [e, Option.bind_some, if_pos (show failV.2.2.2.2.2.2.2 < 0 by show (-1 : Int) < 0; decide)]
        refine Or.inr ⟨rfl, ?_⟩
        rintro ⟨ts, r, h2, h3, h4⟩
        cases ts with
        | nil => simp only [List.length_nil] at h2; omega
        | cons t ts =>
          obtain ⟨m3, ks3⟩ := t
          rw [wfs] at h3
          rw [flats, List.append_assoc] at h4
          exact hno ⟨_, _, ((wf_zero _ _ _ _).1 h3.1).1, h4⟩
    · rw [if_neg h1]
      refine Or.inl ⟨[], i, by rw [toSs, List.append_nil]; rfl, by simp only [List.length_nil]; omega, by rw [wfs]; trivial, by rw [flats]; rfl, Nat.le_refl _, hi⟩
  | succ n ih =>
    intro i c K acc hn hi hci hc ha hK
    obtain ⟨K, rfl⟩ : ∃ j, K = j + 1 := ⟨K - 1, by omega⟩
    rw [tollbookref13_grown.l0]
    by_cases h1 : (c : Int) < m.f1
    · rw [if_pos h1, wrap_id (x := deep + 1) (by omega) (by omega)]
      rcases hG i hi K (by omega) with ⟨m2, ts2, j, e, hw2, hd2, hij, hj⟩ | ⟨e, hno⟩
      · rw [e, Option.bind_some]
        have hnn : ¬ ((j : Nat) : Int) < 0 := by omega
        have hgo : (m2.f0 = m.f0 ∧ m.f0 ≠ 3) ∨ ¬ (m2.f0 = m.f0 ∧ m.f0 ≠ 3) := Classical.em _
        have hfail : (m2.f0 = m.f0 ∧ m.f0 ≠ 3) → ¬ ∃ ts r, (ts.length : Int) = m.f1 - c ∧ wfs fmB (deep + 1) m.f0 ts ∧ l.drop i = flats ts ++ r := by
          rintro hk ⟨ts, r, h2, h3, h4⟩
          cases ts with
          | nil => simp only [List.length_nil] at h2; omega
          | cons t ts =>
            rw [wfs] at h3
            rw [flats, List.append_assoc, hd2] at h4
            obtain ⟨e3, _⟩ := flat_uniq fmB _ _ _ _ _ t _ _ hw2 h3.1 h4
            subst e3
            exact ((wf_zero _ _ _ _).1 h3.1).2 hk
        have hnext : ¬ (m2.f0 = m.f0 ∧ m.f0 ≠ 3) → _ := fun hk => by
          have IH := ih j (c + 1) K (acc ++ [(Tr.mk m2 ts2).toS]) (by omega) hj (by omega) (by omega) (by rw [List.length_append, ha]; rfl) (by omega)
          exact (show (∃ ts, ∃ j2 : Nat, tollbookref13_grown.l0 K l (j : Int) deep ((c + 1 : Nat) : Int) m.f0 m.f1 m.f2 m.f3 m.f4.f0 m.f4.f1 m.f0 m.f1 m.f2 m.f3 m.f4.f0 m.f4.f1 (acc ++ [(Tr.mk m2 ts2).toS]) = some (resV m (acc ++ toSs ts) (j2 : Int)) ∧ (ts.length : Int) = m.f1 - c ∧ wfs fmB (deep + 1) m.f0 ts ∧ l.drop i = flats ts ++ l.drop j2 ∧ i ≤ j2 ∧ j2 ≤ l.length) ∨
            (tollbookref13_grown.l0 K l (j : Int) deep ((c + 1 : Nat) : Int) m.f0 m.f1 m.f2 m.f3 m.f4.f0 m.f4.f1 m.f0 m.f1 m.f2 m.f3 m.f4.f0 m.f4.f1 (acc ++ [(Tr.mk m2 ts2).toS]) = some failV ∧ ¬ ∃ ts r, (ts.length : Int) = m.f1 - c ∧ wfs fmB (deep + 1) m.f0 ts ∧ l.drop i = flats ts ++ r) from by
            rcases IH with ⟨ts, j2, e2, q1, q2, q3, q4, q5⟩ | ⟨e2, q⟩
            · refine Or.inl ⟨.mk m2 ts2 :: ts, j2, ?_, by rw [List.length_cons]; omega, ?_, ?_, by omega, q5⟩
              · rw [e2, toSs, List.append_assoc]; rfl
              · rw [wfs]; exact ⟨(wf_zero _ _ _ _).2 ⟨hw2, hk⟩, q2⟩
              · rw [flats, List.append_assoc, ← q3, hd2]
            · refine Or.inr ⟨e2, ?_⟩
              rintro ⟨ts, r, h2, h3, h4⟩
              cases ts with
              | nil => simp only [List.length_nil] at h2; omega
              | cons t ts =>
                rw [wfs] at h3
                rw [flats, List.append_assoc, hd2] at h4
                obtain ⟨_, e4⟩ := flat_uniq fmB _ _ _ _ _ t _ _ hw2 h3.1 h4
                exact q ⟨ts, r, by rw [List.length_cons] at h2; omega, h3.2, e4⟩)
        rw [show (resV m2 (toSs ts2) (j : Int)).2.2.2.2.2.2.2 = (j : Int) from rfl, if_neg hnn]
        have hal : acc.length < 1759218604441 := by omega
        have hcons : (⟨⟨(resV m2 (toSs ts2) (j : Int)).1, (resV m2 (toSs ts2) (j : Int)).2.1, (resV m2 (toSs ts2) (j : Int)).2.2.1, (resV m2 (toSs ts2) (j : Int)).2.2.2.1, ⟨(resV m2 (toSs ts2) (j : Int)).2.2.2.2.1, (resV m2 (toSs ts2) (j : Int)).2.2.2.2.2.1⟩⟩, (resV m2 (toSs ts2) (j : Int)).2.2.2.2.2.2.1⟩ : S51) = (Tr.mk m2 ts2).toS := by rw [Tr.toS]; rfl
        rw [hcons, wrap_add1 c (by omega), show (resV m2 (toSs ts2) (j : Int)).1 = m2.f0 from rfl, if_pos hal]
        rcases fmB_par m hm (by omega) with hp | hp | hp
        · rw [if_pos hp]
          by_cases h2 : m2.f0 = m.f0
          · rw [if_pos h2]; exact Or.inr ⟨rfl, hfail ⟨h2, by omega⟩⟩
          · rw [if_neg h2]; exact hnext (fun q => h2 q.1)
        · rw [if_neg (by omega), if_pos hp]
          by_cases h2 : m2.f0 = m.f0
          · rw [if_pos h2]; exact Or.inr ⟨rfl, hfail ⟨h2, by omega⟩⟩
          · rw [if_neg h2]; exact hnext (fun q => h2 q.1)
        · rw [if_neg (by omega), if_neg (by omega)]; exact hnext (fun q => q.2 hp)
      · rw [e, Option.bind_some, if_pos (show failV.2.2.2.2.2.2.2 < 0 by show (-1 : Int) < 0; decide)]
        refine Or.inr ⟨rfl, ?_⟩
        rintro ⟨ts, r, h2, h3, h4⟩
        cases ts with
        | nil => simp only [List.length_nil] at h2; omega
        | cons t ts =>
          obtain ⟨m3, ks3⟩ := t
          rw [wfs] at h3
          rw [flats, List.append_assoc] at h4
          exact hno ⟨_, _, ((wf_zero _ _ _ _).1 h3.1).1, h4⟩
    · rw [if_neg h1]
      refine Or.inl ⟨[], i, by rw [toSs, List.append_nil]; rfl, by simp only [List.length_nil]; omega, by rw [wfs]; trivial, by rw [flats]; rfl, Nat.le_refl _, hi⟩
theorem grown_spec : ∀ (d : Nat) (deep : Int), 17 ≤ (d : Int) + deep → 1 ≤ deep → deep ≤ 17 → ∀ i, i ≤ l.length → ∀ K, (d + 1) * 300 ≤ K → Grown fmB l deep i (tollbookref13_grown.f K l (i : Int) deep) := by
  intro d
  induction d with
  | zero =>
    intro deep h1 h2 h3 i hi K hK
    obtain ⟨K, rfl⟩ : ∃ j, K = j + 2 := ⟨K - 2, by omega⟩
    have hd : deep = 17 := by omega
    subst hd
    have hno : ¬ ∃ t r, Tr.wf fmB 17 0 t ∧ l.drop i = t.flat ++ r := by
      rintro ⟨⟨m, ts⟩, r, hw, _⟩
      rw [Tr.wf] at hw; omega
    rw [tollbookref13_grown.f]
    by_cases h : (i : Int) ≥ (l.length : Int)
    · rw [if_pos h, tollbookref13_grown.j0, if_pos rfl]; exact Or.inr ⟨rfl, hno⟩
    · rw [if_neg h, tollbookref13_grown.j0, if_pos (by decide)]; exact Or.inr ⟨rfl, hno⟩
  | succ d ih =>
    intro deep h1 h2 h3 i hi K hK
    obtain ⟨B, hB⟩ : ∃ B, (d + 1) * 300 = B := ⟨_, rfl⟩
    have hK : B + 300 ≤ K := by omega
    rw [hB] at ih
    obtain ⟨K, rfl⟩ : ∃ j, K = j + 2 := ⟨K - 2, by omega⟩
    clear hB
    rw [tollbookref13_grown.f]
    by_cases h : (i : Int) ≥ (l.length : Int)
    · rw [if_pos h, tollbookref13_grown.j0, if_pos rfl]
      refine Or.inr ⟨rfl, ?_⟩
      rintro ⟨⟨m, ts⟩, r, _, h4⟩
      rw [List.drop_of_length_le (by omega), Tr.flat] at h4
      cases h4
    · rw [if_neg h, tollbookref13_grown.j0]
      by_cases hd : deep > 16
      · rw [if_pos (decide_eq_true hd)]
        refine Or.inr ⟨rfl, ?_⟩
        rintro ⟨⟨m, ts⟩, r, hw, _⟩
        rw [Tr.wf] at hw; omega
      · have hlt : i < l.length := by omega
        have hdr := rd_dropT l i hlt
        rw [if_neg (by simp only [decide_eq_true_iff]; exact hd), if_pos (by omega), if_pos (by omega)]
        obtain ⟨m, hm⟩ : ∃ m, rd_T45 l (i : Int) = m := ⟨_, rfl⟩
        rw [hm] at hdr ⊢
        rw [single_some K (by omega), Option.bind_some]
        by_cases hf : fmB m = true
        · rw [if_pos hf, wrap_add1 i (by omega)]
          rcases refkids l hl deep h2 (by omega) m hf B (fun i hi K hK => ih (deep + 1) (by omega) (by omega) (by omega) i hi K hK) 64 (i + 1) 0 K [] (by omega) (by omega) (Nat.zero_le _) (by have := fmB_kids m hf; omega) (by exact List.length_nil) (by omega) with ⟨ts, j, e, q1, q2, q3, q4, q5⟩ | ⟨e, q⟩
          · refine Or.inl ⟨m, ts, j, ?_, ?_, ?_, by omega, q5⟩
            · rw [show ((0 : Nat) : Int) = 0 from rfl, List.nil_append] at e; exact e
            · rw [Tr.wf]; exact ⟨by omega, hf, fun q => fmB_zero m hf q.1, by omega, q2⟩
            · rw [Tr.flat, List.cons_append, ← q3, hdr]
          · rw [show ((0 : Nat) : Int) = 0 from rfl] at e q
            refine Or.inr ⟨e, ?_⟩
            rintro ⟨⟨m3, ts⟩, r, hw, h4⟩
            rw [hdr, Tr.flat, List.cons_append] at h4
            obtain ⟨rfl, h5⟩ := List.cons.inj h4
            rw [Tr.wf] at hw
            exact q ⟨ts, r, by omega, hw.2.2.2.2, h5⟩
        · rw [if_neg hf]
          refine Or.inr ⟨rfl, ?_⟩
          rintro ⟨⟨m3, ts⟩, r, hw, h4⟩
          rw [hdr, Tr.flat, List.cons_append] at h4
          obtain ⟨rfl, _⟩ := List.cons.inj h4
          rw [Tr.wf] at hw
          exact hf hw.2.1
end
def mkN (i : Nat) : S45 := ⟨0, 8000024 + (i : Int), (⟨#[]⟩ : ByteArray), 0, ⟨0, 0⟩⟩
def mksN : List S45 := (List.range 12).map mkN
theorem markNode_some (i : Nat) (h : i < 12) : tollbookkit_markNode.f 1 (i : Int) = some ((0 : Int), (8000024 + (i : Int) : Int), (⟨#[]⟩ : ByteArray), (0 : Int), (0 : Int), (0 : Int)) := by
  unfold tollbookkit_markNode.f tollbookkit_mark.f
  rw [Option.bind_some, wrap_id (x := 1 + 7) (by decide) (by decide), wrap_id (x := 1000003 * (1 + 7)) (by decide) (by decide), wrap_id (x := 1000003 * (1 + 7) + (i : Int)) (by omega) (by omega)]; rfl
theorem lentN_loop (l : List S45) (hl : l.length ≤ 2513169434850) : ∀ (m i k : Nat), i + m = 12 → tollbookkit_LentNodes.l0 (k + m + 1) l (l ++ (List.range i).map mkN) (i : Int) = some (l ++ mksN)
  | 0, i, k, hi => by
    obtain rfl : i = 12 := by omega
    rw [tollbookkit_LentNodes.l0, if_neg (by omega), if_pos (by omega), if_pos (by rw [List.length_append]; omega)]; rfl
  | m + 1, i, k, hi => by
    rw [show k + (m + 1) + 1 = (k + m + 1) + 1 from by omega, tollbookkit_LentNodes.l0, if_pos (by omega), markNode_some i (by omega), Option.bind_some, if_pos (by rw [List.length_append, List.length_map, List.length_range]; omega), wrap_add1 i (by omega)]
    have := lentN_loop l hl m (i + 1) k (by omega)
    rw [List.range_succ, List.map_append, ← List.append_assoc] at this
    exact this
theorem lentN_some (l : List S45) (hl : l.length ≤ 2513169434850) (k : Nat) (hk : 13 ≤ k) : tollbookkit_LentNodes.f k l = some (l ++ mksN) := by
  obtain ⟨k, rfl⟩ : ∃ j, k = j + 12 + 1 := ⟨k - 13, by omega⟩
  have h := lentN_loop l hl 12 0 k rfl
  unfold tollbookkit_LentNodes.f
  rw [wrap_id (x := (l.length : Int) + 12) (by omega) (by omega), if_pos (by omega), if_pos (by omega), Option.bind_some, if_pos (by rw [List.length_nil]; omega), List.nil_append]
  rw [List.range_zero, List.map_nil, List.append_nil] at h
  exact h
theorem rdN_left (l : List S45) (i : Nat) (h : i < l.length) : rd_T45 (l ++ mksN) (i : Int) = rd_T45 l (i : Int) := by
  unfold rd_T45
  rw [Int.toNat_natCast, List.getD_eq_getElem?_getD, List.getD_eq_getElem?_getD, List.getElem?_append_left h]
theorem rdN_right (l : List S45) (i : Nat) (h : i < 12) : rd_T45 (l ++ mksN) ((l.length + i : Nat) : Int) = mkN i := by
  unfold rd_T45
  rw [Int.toNat_natCast, List.getD_eq_getElem?_getD, List.getElem?_append_right (by omega), Nat.add_sub_cancel_left]
  unfold mksN
  rw [List.getElem?_map, List.getElem?_range h]; rfl
theorem nodeEq (m : S45) : ((m.f0 == m.f0) && ((m.f1 == m.f1) && ((m.f2.toList == m.f2.toList) && ((m.f3 == m.f3) && (((m.f4.f0 == m.f4.f0) && (m.f4.f1 == m.f4.f1))))))) = true := by simp
theorem keptN_loop (l : List S45) (hl : l.length ≤ 2513169434850) : ∀ (m i k : Nat), i + m = l.length + 12 → tollbookkit_KeptNodes.l0 (k + m + 1) l (l ++ mksN) (i : Int) = some true
  | 0, i, k, hi => by
    have hw : (l ++ mksN).length = l.length + 12 := by rw [List.length_append]; rfl
    rw [tollbookkit_KeptNodes.l0, if_neg (by omega)]
  | m + 1, i, k, hi => by
    have hw : (l ++ mksN).length = l.length + 12 := by rw [List.length_append]; rfl
    have ih := keptN_loop l hl m (i + 1) k (by omega)
    rw [show k + (m + 1) + 1 = (k + m + 1) + 1 from by omega, tollbookkit_KeptNodes.l0, if_pos (by omega)]
    by_cases h : i < l.length
    · rw [if_pos (by omega), if_pos (by omega), rdN_left l i h, if_pos (nodeEq _), if_neg (by omega), wrap_add1 i (by omega)]
      exact ih
    · obtain ⟨j, rfl⟩ : ∃ j, i = l.length + j := ⟨i - l.length, by omega⟩
      rw [if_neg (by omega), if_pos (by omega), if_pos (by omega), wrap_id (x := ((l.length + j : Nat) : Int) - (l.length : Int)) (by omega) (by omega), show ((l.length + j : Nat) : Int) - (l.length : Int) = (j : Int) from by omega, markNode_some j (by omega), Option.bind_some, rdN_right l j (by omega), if_pos (by exact nodeEq (mkN j)), wrap_add1 (l.length + j) (by omega)]
      exact ih
theorem keptN_some (l : List S45) (hl : l.length ≤ 2513169434850) (k : Nat) (hk : l.length + 13 ≤ k) : tollbookkit_KeptNodes.f k l.length (l ++ mksN) l = some true := by
  obtain ⟨k, rfl⟩ : ∃ j, k = j + (l.length + 12) + 1 := ⟨k - (l.length + 13), by omega⟩
  have hw : (l ++ mksN).length = l.length + 12 := by rw [List.length_append]; rfl
  unfold tollbookkit_KeptNodes.f
  rw [if_pos rfl, wrap_id (x := (l.length : Int) + 12) (by omega) (by omega), if_pos (by omega), if_pos (by omega), show ((l.length : Int) + 12).toNat = (l ++ mksN).length from by omega, List.take_length]
  exact keptN_loop l hl (l.length + 12) 0 k (by omega)
theorem sameT_loop (xs : List ByteArray) (hx : xs.length ≤ 8796093022190) : ∀ (m i k : Nat), i + m = xs.length → tollbookkit_SameTexts.l0 (k + m + 1) xs xs (i : Int) = some true
  | 0, i, k, hi => by rw [tollbookkit_SameTexts.l0, if_neg (by omega)]
  | m + 1, i, k, hi => by
    rw [show k + (m + 1) + 1 = (k + m + 1) + 1 from by omega, tollbookkit_SameTexts.l0, if_pos (by omega), if_pos (by omega), if_pos (by omega), if_pos rfl, wrap_add1 i (by omega), sameT_loop xs hx m (i + 1) k (by omega)]
theorem sameT_some (xs : List ByteArray) (hx : xs.length ≤ 8796093022190) (k : Nat) (hk : xs.length + 1 ≤ k) : tollbookkit_SameTexts.f k xs xs = some true := by
  unfold tollbookkit_SameTexts.f
  obtain ⟨k, rfl⟩ : ∃ j, k = j + xs.length + 1 := ⟨k - xs.length - 1, by omega⟩
  rw [if_pos rfl]; exact sameT_loop xs hx xs.length 0 k (by omega)
theorem check_some (l : List S45) (k : Nat) (hk : 6000 ≤ k) : ∃ c, traits_Check.f k l = some c ∧ tollbookref13_Check.f k l = some c := by
  unfold traits_Check.f tollbookref13_Check.f
  by_cases h0 : l.length = 0
  · rw [if_pos h0, if_pos (show (l.length : Int) = 0 by omega)]; exact ⟨0, rfl, rfl⟩
  · rw [if_neg h0, if_neg (show ¬ (l.length : Int) = 0 by omega)]
    unfold tollbookref13_Of.f
    by_cases h1 : 64 < l.length
    · rw [if_pos h1, if_pos (show (l.length : Int) > 64 by omega)]; exact ⟨131, rfl, rfl⟩
    · rw [if_neg h1, if_neg (show ¬ (l.length : Int) > 64 by omega)]
      have g := grown_spec l (by omega) 16 1 (by omega) (by omega) (by omega) 0 (Nat.zero_le _) k (by omega)
      rw [show ((0 : Nat) : Int) = 0 from rfl] at g
      rcases tree_spec k fmB (formed_some k (by omega)) fmB_kids l 20 1 0 0 (Nat.zero_le _) (by omega) (by omega) with ⟨t, j, e, hw, hd, _, hj⟩ | ⟨j, e, hj, hno⟩
      · rcases g with ⟨m, ts, j2, e2, hw2, hd2, _, hj2⟩ | ⟨e2, hno2⟩
        · have hj12 : l.length - j = l.length - j2 := by
            rw [hd] at hd2
            have := (flat_uniq fmB _ _ _ _ _ _ _ _ hw hw2 hd2).2
            have := congrArg List.length this
            rwa [List.length_drop, List.length_drop] at this
          obtain rfl : j = j2 := by omega
          rw [e, e2, Option.bind_some, Option.bind_some]
          by_cases hjl : j = l.length
          · refine ⟨0, ?_, ?_⟩
            · show some (if true = true ∧ j = l.length then (0 : Int) else 131) = some 0
              rw [if_pos ⟨rfl, hjl⟩]
            · show (if ((j : Int) == (l.length : Int)) = true then some (0 : Int) else some 131) = some 0
              rw [if_pos (beq_iff_eq.2 (by omega))]
          · refine ⟨131, ?_, ?_⟩
            · show some (if true = true ∧ j = l.length then (0 : Int) else 131) = some 131
              rw [if_neg (fun q => hjl q.2)]
            · show (if ((j : Int) == (l.length : Int)) = true then some (0 : Int) else some 131) = some 131
              rw [if_neg (fun q => hjl (by have := beq_iff_eq.1 q; omega))]
        · exact absurd ⟨t, _, hw, hd⟩ hno2
      · rcases g with ⟨m, ts, j2, e2, hw2, hd2, _, hj2⟩ | ⟨e2, hno2⟩
        · exact absurd ⟨_, _, hw2, hd2⟩ hno
        · rw [e, e2, Option.bind_some, Option.bind_some]
          refine ⟨131, ?_, ?_⟩
          · show some (if false = true ∧ j = l.length then (0 : Int) else 131) = some 131
            rw [if_neg (fun q => Bool.false_ne_true q.1)]
          · show (if ((-1 : Int) == (l.length : Int)) = true then some (0 : Int) else some 131) = some 131
            rw [if_neg (fun q => by have := beq_iff_eq.1 q; omega)]
theorem awake_at : tollbooklaw13_awake.f 40 = some true := by decide +kernel
theorem awake_some : ∀ k, 40 ≤ k → tollbooklaw13_awake.f k = some true := by
  intro k hk
  obtain ⟨j, rfl⟩ : ∃ j, k = 40 + j := ⟨k - 40, by omega⟩
  induction j with
  | zero => exact awake_at
  | succ j ih => exact tollbooklaw13_awake.mono (40 + j) _ (ih (by omega))
end Go.Proofs.YtcljnjnlafkieaaGreatDoorR.CTr
