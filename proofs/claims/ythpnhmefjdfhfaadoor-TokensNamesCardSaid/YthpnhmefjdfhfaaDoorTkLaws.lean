/- What stands behind a blank or a line's end plays no part for the token ahead of it; a token alone is that token. -/
import Derived.Test.YthpnhmefjdfhfaaDoorTkLex
namespace Go.Proofs.YthpnhmefjdfhfaaDoor.Tk

/-- a byte that ends every token -/
def Sep (c : UInt8) : Prop := c.toNat = 32 ∨ c.toNat = 10
theorem Sep.lo {c : UInt8} (h : Sep c) : lo c = false := by unfold Sep at h; simp [Tk.lo]; omega
theorem Sep.up {c : UInt8} (h : Sep c) : up c = false := by unfold Sep at h; simp [Tk.up]; omega
theorem Sep.dg {c : UInt8} (h : Sep c) : dg c = false := by unfold Sep at h; simp [Tk.dg]; omega
theorem Sep.wi {c : UInt8} (h : Sep c) : wi c = false := by
  have h' := h
  unfold Sep at h'; simp [Tk.wi, h.lo, h.dg]; omega
theorem Sep.af {c : UInt8} (h : Sep c) : af c = false := by
  have h' := h
  unfold Sep at h'; simp [Tk.af, h.lo, h.up, h.dg]; omega
theorem Sep.dpos {c : UInt8} (h : Sep c) (i : Nat) : dpos i c = false := by
  have h' := h
  unfold Sep at h'; unfold Tk.dpos
  split
  · simp; omega
  · exact h.dg
theorem Sep.n46 {c : UInt8} (h : Sep c) : ¬ c.toNat = 46 := by unfold Sep at h; omega
theorem Sep.n61 {c : UInt8} (h : Sep c) : ¬ c.toNat = 61 := by unfold Sep at h; omega

theorem drop_sep (a x : List UInt8) (n : Nat) (h : n ≤ a.length) : (a ++ x).drop n = a.drop n ++ x := by
  rw [List.drop_append, show n - a.length = 0 from by omega, List.drop_zero]
theorem take_sep (a x : List UInt8) (n : Nat) (h : n ≤ a.length) : (a ++ x).take n = a.take n := by
  rw [List.take_append, show n - a.length = 0 from by omega, List.take_zero, List.append_nil]

theorem part_sep {c : UInt8} (h : Sep c) (a x : List UInt8) : part (a ++ c :: x) = part a := by
  unfold part; rw [run_sep _ c h.lo, run_sep _ c h.wi]
theorem wordF_fuel : ∀ (n k k' : Nat) (l : List UInt8), l.length ≤ n → l.length ≤ k → l.length ≤ k' → wordF k l = wordF k' l
  | _, 0, 0, _, _, _, _ => rfl
  | _, 0, _ + 1, [], _, _, _ => rfl
  | _, _ + 1, 0, [], _, _, _ => rfl
  | _, _ + 1, _ + 1, [], _, _, _ => rfl
  | _, 0, _, c :: r, _, h, _ => absurd h (by simp)
  | _, _, 0, c :: r, _, _, h => absurd h (by simp)
  | 0, _ + 1, _ + 1, c :: r, h, _, _ => absurd h (by simp)
  | n + 1, k + 1, k' + 1, c :: r, h1, h2, h3 => by
    simp only [List.length_cons] at h1 h2 h3
    unfold wordF
    rw [wordF_fuel n k k' (r.drop (part r)) (by simp; omega) (by simp; omega) (by simp; omega)]
theorem wordF_sep {c : UInt8} (h : Sep c) : ∀ (k : Nat) (a x : List UInt8), wordF k (a ++ c :: x) = wordF k a
  | 0, _, _ => rfl
  | k + 1, [], x => by simp [wordF, h.n46]
  | k + 1, d :: a, x => by
    rw [List.cons_append]
    unfold wordF
    rw [part_sep h, drop_sep _ _ _ (part_le a), wordF_sep h k]
theorem word_sep {c : UInt8} (h : Sep c) (a x : List UInt8) : word (a ++ c :: x) = word a := by
  unfold word
  rw [part_sep h, drop_sep _ _ _ (part_le a), wordF_sep h]
  rw [wordF_fuel (a ++ c :: x).length (a ++ c :: x).length a.length (a.drop (part a)) (by simp; omega) (by simp; omega) (by simp)]
theorem frac_sep {c : UInt8} (h : Sep c) (a x : List UInt8) : frac (a ++ c :: x) = frac a := by
  cases a with
  | nil => simp [frac, h.n46]
  | cons d a => rw [List.cons_append]; simp only [frac]; rw [run_sep _ c h.dg]
theorem number_sep {c : UInt8} (h : Sep c) (a x : List UInt8) : number (a ++ c :: x) = number a := by
  unfold number
  rw [run_sep _ c h.dg, drop_sep _ _ _ (run_le _ a), frac_sep h]
theorem date_sep {c : UInt8} (h : Sep c) (a x : List UInt8) : date (a ++ c :: x) = date a := by
  unfold date
  by_cases ha : 10 ≤ a.length
  · have e : ∀ i, i < 10 → (a ++ c :: x).getD i 0 = a.getD i 0 := fun i hi => by
      rw [List.getD_eq_getElem?_getD, List.getD_eq_getElem?_getD, List.getElem?_append_left (by omega)]
    have : (10 ≤ (a ++ c :: x).length ∧ dall (a ++ c :: x) = true) ↔ (10 ≤ a.length ∧ dall a = true) := by
      rw [dall_iff, dall_iff]
      exact ⟨fun ⟨_, q⟩ => ⟨ha, fun i hi => by rw [← e i hi]; exact q i hi⟩, fun ⟨_, q⟩ => ⟨by simp; omega, fun i hi => by rw [e i hi]; exact q i hi⟩⟩
    simp only [this]
  · rw [if_neg (c := 10 ≤ a.length ∧ _) (fun q => ha q.1), if_neg]
    rintro ⟨_, q⟩
    have := (dall_iff _).1 q a.length (by omega)
    rw [List.getD_eq_getElem?_getD, List.getElem?_append_right (Nat.le_refl _)] at this
    simp [h.dpos] at this
theorem code_sep {c : UInt8} (h : Sep c) (a x : List UInt8) : code (a ++ c :: x) = code a := by
  unfold code; rw [run_take, run_take, run_sep _ c h.up]
theorem mark_sep {c : UInt8} (h : Sep c) (a x : List UInt8) (ha : a ≠ []) : mark (a ++ c :: x) = mark a := by
  cases a with
  | nil => exact absurd rfl ha
  | cons d a =>
    cases a with
    | nil => simp [mark, h.n61]
    | cons e a => simp [mark]
theorem next_sep {c : UInt8} (h : Sep c) (a x : List UInt8) (ha : a ≠ []) : next (a ++ c :: x) = next a := by
  have e : (a ++ c :: x).take 1 = a.take 1 := take_sep _ _ _ (by cases a with | nil => exact absurd rfl ha | cons => simp)
  unfold next
  rw [mark_sep h a x ha, e, word_sep h, code_sep h, date_sep h, number_sep h]
theorem stuck_sep {c : UInt8} (h : Sep c) (k : Nat) (a x : List UInt8) : stuck k (a ++ c :: x) = stuck k a := by
  cases a with
  | nil => simp [stuck, h.af]
  | cons d a => simp [stuck]

/-! ### a token alone -/
theorem wordF_take : ∀ (k : Nat) (l : List UInt8), wordF k (l.take (wordF k l)) = wordF k l
  | 0, l => rfl
  | k + 1, [] => by simp [wordF]
  | k + 1, c :: r => by
    by_cases hc : c.toNat = 46
    · by_cases hp : part r = 0
      · simp [wordF, hc, hp]
      · have e : wordF (k + 1) (c :: r) = 1 + part r + wordF k (r.drop (part r)) := by rw [wordF, if_pos hc, if_neg hp]
        rw [e, show 1 + part r + wordF k (r.drop (part r)) = (part r + wordF k (r.drop (part r))) + 1 from by omega, List.take_succ_cons]
        have hq : part (r.take (part r + wordF k (r.drop (part r)))) = part r := by
          have h0 : run lo r ≠ 0 := fun h => hp (by simp [part, h])
          have h1 : part r = run wi r := by simp [part, h0]
          unfold part at hp ⊢
          rw [run_take, run_take, if_neg (by have : part r ≠ 0 := by rw [h1]; simpa [h0] using hp
                                             omega), if_neg h0, ← h1]
          omega
        rw [wordF, if_pos hc, hq, if_neg hp, List.drop_take, show part r + wordF k (r.drop (part r)) - part r = wordF k (r.drop (part r)) from by omega, wordF_take k]
        omega
    · simp [wordF, hc]
theorem word_take (l : List UInt8) (h : word l ≠ 0) : word (l.take (word l)) = word l := by
  have hp : part l ≠ 0 := fun e => h (by simp [word, e])
  have h0 : run lo l ≠ 0 := fun e => hp (by simp [part, e])
  have h1 : part l = run wi l := by simp [part, h0]
  have e : word l = part l + wordF l.length (l.drop (part l)) := by simp [word, hp]
  have hq : part (l.take (word l)) = part l := by
    have hz : ¬ min (word l) (run lo l) = 0 := by omega
    rw [show part (l.take (word l)) = if run lo (l.take (word l)) = 0 then 0 else run wi (l.take (word l)) from rfl, run_take, run_take, if_neg hz, ← h1]
    omega
  rw [show word (l.take (word l)) = if part (l.take (word l)) = 0 then 0 else part (l.take (word l)) + wordF (l.take (word l)).length ((l.take (word l)).drop (part (l.take (word l)))) from rfl]
  rw [hq, if_neg hp, List.drop_take, show word l - part l = wordF l.length (l.drop (part l)) from by omega]
  have hl := word_le l
  have hw := wordF_le l.length (l.drop (part l))
  rw [wordF_fuel l.length _ l.length _ (by simp; omega) (by simp; omega) (by simp; omega), wordF_take, e]
theorem frac_take (l : List UInt8) : frac (l.take (frac l)) = frac l := by
  cases l with
  | nil => rfl
  | cons c r =>
    by_cases hc : c.toNat = 46
    · by_cases hr : run dg r = 0
      · simp [frac, hc, hr]
      · have e : frac (c :: r) = run dg r + 1 := by simp [frac, hc, hr]; omega
        rw [e, List.take_succ_cons]
        simp only [frac]
        rw [if_pos hc, run_take, Nat.min_self, if_neg hr]; omega
    · simp [frac, hc]
theorem number_take (l : List UInt8) (h : number l ≠ 0) : number (l.take (number l)) = number l := by
  have hp : run dg l ≠ 0 := fun e => h (by simp [number, e])
  have e : number l = run dg l + frac (l.drop (run dg l)) := by simp [number, hp]
  have hq : run dg (l.take (number l)) = run dg l := by rw [run_take]; omega
  rw [show number (l.take (number l)) = if run dg (l.take (number l)) = 0 then 0 else run dg (l.take (number l)) + frac ((l.take (number l)).drop (run dg (l.take (number l)))) from rfl]
  rw [hq, if_neg hp, List.drop_take, show number l - run dg l = frac (l.drop (run dg l)) from by omega, frac_take, e]
theorem date_take (l : List UInt8) (n : Nat) (h : date (l.take n) ≠ 0) : date l ≠ 0 := by
  unfold date at h ⊢
  by_cases hd : 10 ≤ (l.take n).length ∧ dall (l.take n) = true
  · have hl : 10 ≤ n ∧ 10 ≤ l.length := by have := hd.1; rw [List.length_take] at this; omega
    rw [if_pos]
    · omega
    · refine ⟨hl.2, (dall_iff _).2 fun i hi => ?_⟩
      have := (dall_iff _).1 hd.2 i hi
      rwa [List.getD_eq_getElem?_getD, List.getElem?_take, if_pos (by omega), ← List.getD_eq_getElem?_getD] at this
  · rw [if_neg hd] at h; exact absurd rfl h
theorem date_10 (l : List UInt8) (h : date l ≠ 0) : date l = 10 ∧ date (l.take 10) = 10 := by
  unfold date at h ⊢
  by_cases hd : 10 ≤ l.length ∧ dall l = true
  · rw [if_pos hd, if_pos]
    · exact ⟨rfl, rfl⟩
    · refine ⟨by rw [List.length_take]; omega, (dall_iff _).2 fun i hi => ?_⟩
      rw [List.getD_eq_getElem?_getD, List.getElem?_take, if_pos hi, ← List.getD_eq_getElem?_getD]; exact (dall_iff _).1 hd.2 i hi
  · rw [if_neg hd] at h; exact absurd rfl h
theorem code_3 (l : List UInt8) (h : code l ≠ 0) : code l = 3 ∧ code (l.take 3) = 3 := by
  unfold code at h ⊢
  by_cases hd : run up (l.take 3) = 3
  · rw [if_pos hd, if_pos]
    · exact ⟨rfl, rfl⟩
    · rw [List.take_take]; exact hd
  · rw [if_neg hd] at h; exact absurd rfl h
theorem mark_take (l : List UInt8) (h : mark l ≠ 0) : mark (l.take (mark l)) = mark l := by
  cases l with
  | nil => rfl
  | cons c r =>
    unfold mark at h ⊢
    by_cases h1 : c.toNat = 59 ∨ c.toNat = 44 ∨ c.toNat = 40 ∨ c.toNat = 41 ∨ c.toNat = 37
    · simp only [if_pos h1, List.take_succ_cons, List.take_zero]
    · by_cases h2 : c.toNat = 60 ∨ c.toNat = 62
      · cases r with
        | nil => simp [if_pos h2]
        | cons d r =>
          by_cases h3 : d.toNat = 61
          · simp only [if_neg h1, if_pos h2, if_pos h3, List.take_succ_cons, List.take_zero]
          · simp only [if_neg h1, if_pos h2, if_neg h3, List.take_succ_cons, List.take_zero]
      · simp [if_neg h1, if_neg h2] at h
theorem mark_head (c : UInt8) (r r' : List UInt8) (h : mark (c :: r) = 0) : mark (c :: r') = 0 := by
  unfold mark at h ⊢
  by_cases h1 : c.toNat = 59 ∨ c.toNat = 44 ∨ c.toNat = 40 ∨ c.toNat = 41 ∨ c.toNat = 37
  · simp [if_pos h1] at h
  · by_cases h2 : c.toNat = 60 ∨ c.toNat = 62
    · simp only [if_neg h1, if_pos h2] at h
      cases r with
      | nil => simp at h
      | cons d r => simp only at h; split at h <;> omega
    · simp only [if_neg h1, if_neg h2]
/-- A token's text, alone, is that token. -/
theorem next_take (l : List UInt8) (h : (next l).2 ≠ 0) : next (l.take (next l).2) = next l := by
  cases l with
  | nil => rfl
  | cons c r =>
    obtain ⟨n, hn⟩ : ∃ n, (next (c :: r)).2 = n + 1 := ⟨(next (c :: r)).2 - 1, by omega⟩
    have e1 : ((c :: r).take (n + 1)).take 1 = (c :: r).take 1 := by simp
    by_cases hm : 0 < mark (c :: r)
    · have hx : next (c :: r) = (5, mark (c :: r)) := by simp [next, hm]
      rw [hx]; simp only
      unfold next
      rw [mark_take _ (by omega), if_pos hm]
    · have hm' : ∀ r', mark (c :: r') = 0 := fun r' => mark_head c r r' (by omega)
      have hk : ∀ k, mark ((c :: r).take (k + 1)) = 0 := fun k => by rw [List.take_succ_cons]; exact hm' _
      by_cases hl : 0 < run lo ((c :: r).take 1)
      · have hx : next (c :: r) = (1, word (c :: r)) := by simp only [next, if_neg hm, if_pos hl]
        rw [hx] at h hn ⊢; simp only at h hn ⊢
        have hw := word_take _ h
        rw [hn] at hw ⊢
        unfold next
        rw [hk, if_neg (by omega), e1, if_pos hl, hw]
      · by_cases hu : 0 < run up ((c :: r).take 1)
        · have hx : next (c :: r) = (2, code (c :: r)) := by simp only [next, if_neg hm, if_neg hl, if_pos hu]
          rw [hx] at h hn ⊢; simp only at h hn ⊢
          have hw := code_3 _ h
          rw [hw.1] at hn ⊢
          unfold next
          rw [hk 2, if_neg (by omega), show ((c :: r).take 3).take 1 = (c :: r).take 1 from by simp, if_neg hl, if_pos hu, hw.2]
        · by_cases hd : 0 < date (c :: r)
          · have hx : next (c :: r) = (4, date (c :: r)) := by simp only [next, if_neg hm, if_neg hl, if_neg hu, if_pos hd]
            have hw := date_10 (c :: r) (by omega)
            rw [hx]; simp only
            rw [hw.1]
            unfold next
            rw [hk 9, if_neg (by omega), show ((c :: r).take 10).take 1 = (c :: r).take 1 from by simp, if_neg hl, if_neg hu, hw.2, if_pos (by omega)]
          · have hx : next (c :: r) = (3, number (c :: r)) := by simp only [next, if_neg hm, if_neg hl, if_neg hu, if_neg hd]
            rw [hx] at h hn ⊢; simp only at h hn ⊢
            have hw := number_take _ h
            have hz : ¬ 0 < date ((c :: r).take (n + 1)) := fun q => hd (Nat.pos_of_ne_zero (date_take (c :: r) (n + 1) (Nat.pos_iff_ne_zero.1 q)))
            rw [hn] at hw ⊢
            unfold next
            rw [hk, if_neg (by omega), e1, if_neg hl, if_neg hu, if_neg hz, hw]
end Go.Proofs.YthpnhmefjdfhfaaDoor.Tk
