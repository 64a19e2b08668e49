/- The printed functions word, number, date, next, Cut of package tokens come to the plain ones. -/
import Derived.Test.YthpnhmefjdfhfaaDoorTkBridge
import Derived.Test.YthpnhmefjdfhfaaDoorPALLx6
namespace Go.Proofs.YthpnhmefjdfhfaaDoor.Tk
open Go.RowKit Go.Proofs.YthpnhmefjdfhfaaDoor.PALL Go.Proofs.YthpnhmefjdfhfaaDoorW.PrintWords Go.Proofs.YthpnhmefjdfhfaaDoorW.PrintLast

theorem wrap_nat (a : Nat) (h : a ≤ 1125899906842624) : wrap64 (a : Int) = (a : Int) := by unfold wrap64; omega
theorem wrap_add1 (a : Nat) (h : a ≤ 1125899906842624) : wrap64 ((a : Int) + 1) = ((a + 1 : Nat) : Int) := by unfold wrap64; omega
theorem wrap_1add (a : Nat) (h : a ≤ 1125899906842624) : wrap64 (1 + (a : Int)) = ((1 + a : Nat) : Int) := by unfold wrap64; omega
theorem wrap_add (a b : Nat) (h : a + b ≤ 1125899906842624) : wrap64 ((a : Int) + (b : Int)) = ((a + b : Nat) : Int) := by unfold wrap64; omega
theorem wrap_sub (a b : Nat) (h : b ≤ a) (h' : a ≤ 1125899906842624) : wrap64 ((a : Int) - (b : Int)) = ((a - b : Nat) : Int) := by unfold wrap64; omega
theorem toNat_cast (n : Nat) : ((n : Int)).toNat = n := Int.toNat_natCast n
theorem word_loop (s : ByteArray) (hs : Sm s) : ∀ (m n k : Nat), 0 < n → n ≤ s.size → s.size - n ≤ m → 2 * m + 2 ≤ k → tokens_word.l0 k s (n : Int) = some (((n + wordF m ((L s).drop n) : Nat)) : Int)
  | m, n, 0, _, _, _, hk => absurd hk (by omega)
  | m, n, 1, _, _, _, hk => absurd hk (by omega)
  | m, n, k + 2, hn, hns, hm, hk => by
    have hl := L_len s
    have hss : s.size ≤ 281474976710656 := hs
    simp only [tokens_word.l0]
    rw [if_pos (by omega), if_pos (by omega), if_pos (by omega), prefix_some, Option.bind_some, toNat_cast, L_from]
    simp only [tokens_word.j1]
    have h46 : (46 : UInt8).toNat = 46 := rfl
    cases hd' : (L s).drop n with
    | nil =>
      have hf : hd (UInt8.toNat 46) ([] : List UInt8) = false := rfl
      rw [hf, if_neg Bool.false_ne_true]
      cases m <;> simp [wordF]
    | cons c r =>
      have hlen := congrArg List.length hd'
      rw [List.length_drop, hl, List.length_cons] at hlen
      cases m with
      | zero => omega
      | succ m =>
        by_cases hc : c.toNat = 46
        · have hf : hd (UInt8.toNat 46) (c :: r) = true := by simp [hd, hc]
          rw [hf, if_pos rfl, wrap_add1 n (by omega), if_pos (by omega), if_pos (by omega), toNat_cast, part_some _ (hs.ext _ _), Option.bind_some, L_from]
          have hr : (L s).drop (n + 1) = r := by rw [← List.drop_drop, hd']; rfl
          rw [hr]
          have hpl := part_le r
          by_cases hp : part r = 0
          · rw [if_pos (by omega)]; simp [wordF, hc, hp]
          · rw [if_neg (by omega), wrap_1add (part r) (by omega), wrap_add n (1 + part r) (by omega), word_loop s hs m (n + (1 + part r)) k (by omega) (by omega) (by omega) (by omega)]
            have e : (L s).drop (n + (1 + part r)) = r.drop (part r) := by rw [show n + (1 + part r) = (n + 1) + part r from by omega, ← List.drop_drop, hr]
            rw [e]; simp only [wordF]; rw [if_pos hc, if_neg hp]; congr 1; omega
        · have hf : hd (UInt8.toNat 46) (c :: r) = false := by simp [hd, hc]
          rw [hf, if_neg Bool.false_ne_true]; simp [wordF, hc]
theorem word_some (s : ByteArray) (hs : Sm s) (k : Nat) (hk : 2 * s.size + 4 ≤ k) : tokens_word.f k s = some ((word (L s) : Nat) : Int) := by
  have hl := L_len s
  unfold tokens_word.f
  rw [part_some s hs, Option.bind_some]
  by_cases h : part (L s) = 0
  · obtain ⟨k, rfl⟩ : ∃ n, k = n + 2 := ⟨k - 2, by omega⟩
    simp only [tokens_word.l0, h]
    rw [if_neg (by omega)]
    simp only [tokens_word.j1]
    simp [word, h]
  · have := part_le (L s)
    rw [word_loop s hs s.size (part (L s)) k (by omega) (by omega) (by omega) (by omega)]
    simp only [word]
    rw [if_neg h, hl]

theorem number_some (s : ByteArray) (hs : Sm s) (k : Nat) (hk : 1 ≤ k) : tokens_number.f k s = some ((number (L s) : Nat) : Int) := by
  have hl := L_len s
  have hss : s.size ≤ 281474976710656 := hs
  obtain ⟨k, rfl⟩ : ∃ n, k = n + 1 := ⟨k - 1, by omega⟩
  have hrl := run_le dg (L s)
  unfold tokens_number.f
  rw [run_dg s hs, Option.bind_some]
  by_cases h : run dg (L s) = 0
  · rw [if_neg (by omega)]
    simp only [tokens_number.j0]
    simp [number, h]
  · rw [if_pos (by omega), if_pos (by omega), if_pos (by omega), prefix_some, Option.bind_some, toNat_cast, L_from]
    simp only [tokens_number.j0]
    have e : number (L s) = run dg (L s) + frac ((L s).drop (run dg (L s))) := by simp [number, h]
    rw [e]
    cases hd' : (L s).drop (run dg (L s)) with
    | nil =>
      have hf : hd (UInt8.toNat 46) ([] : List UInt8) = false := rfl
      rw [hf, if_neg Bool.false_ne_true]; simp [frac]
    | cons c r =>
      have hlen := congrArg List.length hd'
      rw [List.length_drop, hl, List.length_cons] at hlen
      simp only [frac]
      by_cases hc : c.toNat = 46
      · have hf : hd (UInt8.toNat 46) (c :: r) = true := by simp [hd, hc]
        rw [hf, if_pos rfl, wrap_add1 (run dg (L s)) (by omega), if_pos (by omega), if_pos (by omega), toNat_cast, run_dg _ (hs.ext _ _), Option.bind_some, L_from]
        have hr : (L s).drop (run dg (L s) + 1) = r := by rw [← List.drop_drop, hd']; rfl
        rw [hr, if_pos hc]
        have hq := run_le dg r
        by_cases hp : run dg r = 0
        · rw [if_neg (by omega), if_pos hp]; simp
        · rw [if_pos (by omega), if_neg hp, wrap_1add (run dg r) (by omega), wrap_add (run dg (L s)) (1 + run dg r) (by omega)]
      · have hf : hd (UInt8.toNat 46) (c :: r) = false := by simp [hd, hc]
        rw [hf, if_neg Bool.false_ne_true, if_neg hc]; simp
theorem getD_at (l : List UInt8) (i : Nat) (h : i < l.length) : l.getD i 0 = l[i] := by
  rw [List.getD_eq_getElem?_getD, List.getElem?_eq_getElem h]; rfl
theorem one_at (s : ByteArray) (i : Nat) (h : i < s.size) : L (s.extract i (i + 1)) = [(L s).getD i 0] := by
  have hl := L_len s
  rw [L_ext, show i + 1 - i = 1 from by omega, List.drop_eq_getElem_cons (by omega), getD_at _ _ (by omega)]
  rfl
theorem bt_getD (s : ByteArray) (i : Nat) (h : i < s.size) : bt s (i : Int) = ((L s).getD i 0).toNat := by
  rw [bt_get s i h, getD_at _ _ (by rw [L_len]; exact h)]
theorem run_one (p : UInt8 → Bool) (c : UInt8) : run p [c] = if p c = true then 1 else 0 := by
  rw [run_cons, run_nil]
theorem date_loop (s : ByteArray) (hs : Sm s) (h10 : 10 ≤ s.size) : ∀ (d i k : Nat), i + d = 10 → (∀ j, j < i → dpos j ((L s).getD j 0) = true) → d < k → tokens_date.l0 k s (i : Int) = some (((if dall (L s) = true then 10 else 0 : Nat)) : Int)
  | d, i, 0, _, _, h => absurd h (by omega)
  | 0, i, k + 1, hi, hall, _ => by
    have e : dall (L s) = true := (dall_iff _).2 (fun j hj => hall j (by omega))
    simp only [tokens_date.l0]
    rw [if_neg (by omega), e]; rfl
  | d + 1, i, k + 1, hi, hall, hk => by
    have hb := bt_getD s i (by omega)
    have yes : dpos i ((L s).getD i 0) = true → tokens_date.l0 k s ((i + 1 : Nat) : Int) = some (((if dall (L s) = true then 10 else 0 : Nat)) : Int) := fun q =>
      date_loop s hs h10 d (i + 1) k (by omega) (fun j hj => by
        rcases Nat.lt_or_ge j i with h | h
        · exact hall j h
        · rw [show j = i from by omega]; exact q) (by omega)
    have no : dpos i ((L s).getD i 0) = false → dall (L s) = false := fun q => by
      rw [Bool.eq_false_iff]; intro h
      have := (dall_iff _).1 h i (by omega)
      rw [q] at this; cases this
    simp only [tokens_date.l0]
    rw [if_pos (by omega), wrap_add1 i (by omega), hb]
    generalize hg : (L s).getD i 0 = c at *
    by_cases h4 : i = 4
    · rw [if_pos (by omega), if_pos (by omega), if_pos (by omega)]
      by_cases hc : c.toNat = 45
      · rw [if_neg (by simp [hc])]
        exact yes (by simp [dpos, h4, hc])
      · have hf : (((c.toNat : Nat) : Int) == 45) = false := beq_eq_false_iff_ne.2 (show ¬ ((c.toNat : Int) = 45) by omega)
        rw [hf, if_pos (by decide), no (by simp [dpos, h4, hc])]; rfl
    · rw [if_neg (by omega), if_pos (by omega), if_pos (by omega)]
      by_cases h7 : i = 7
      · have q7 : ((i : Int) == 7) = true := beq_iff_eq.2 (by omega)
        rw [q7]
        by_cases hc : c.toNat = 45
        · have hf : (((c.toNat : Nat) : Int) == 45) = true := beq_iff_eq.2 (by omega)
          rw [hf, if_neg (by decide), if_pos (by omega)]
          exact yes (by simp [dpos, h7, hc])
        · have hf : (((c.toNat : Nat) : Int) == 45) = false := beq_eq_false_iff_ne.2 (show ¬ ((c.toNat : Int) = 45) by omega)
          rw [hf, if_pos (by decide), no (by simp [dpos, h7, hc])]; rfl
      · have q7 : ((i : Int) == 7) = false := beq_eq_false_iff_ne.2 (by omega)
        rw [q7]
        by_cases hc : c.toNat = 45
        · have hf : (((c.toNat : Nat) : Int) == 45) = true := beq_iff_eq.2 (by omega)
          rw [hf, if_pos (by decide), no (by simp [dpos, h4, h7, Tk.dg, hc])]; rfl
        · have hf : (((c.toNat : Nat) : Int) == 45) = false := beq_eq_false_iff_ne.2 (show ¬ ((c.toNat : Int) = 45) by omega)
          rw [hf, if_neg (by decide), if_neg (by omega), if_pos (by omega), if_pos (by omega), toNat_cast, toNat_cast, run_dg _ (hs.ext _ _), Option.bind_some, one_at s i (by omega), hg, run_one]
          by_cases hdg : dg c = true
          · rw [if_pos hdg, if_neg (by omega)]
            exact yes (by simp [dpos, h4, h7, hdg])
          · rw [if_neg hdg, if_pos (by omega), no (by simp [dpos, h4, h7]; simpa using hdg)]; rfl
theorem date_some (s : ByteArray) (hs : Sm s) (k : Nat) (hk : 11 ≤ k) : tokens_date.f k s = some ((date (L s) : Nat) : Int) := by
  have hl := L_len s
  unfold tokens_date.f
  by_cases h : (s.size : Int) < 10
  · rw [if_pos h]
    simp only [date]
    rw [if_neg (by omega)]; rfl
  · rw [if_neg h]
    have := date_loop s hs (by omega) 10 0 k (by omega) (fun j hj => by omega) (by omega)
    rw [show ((0 : Nat) : Int) = 0 from rfl] at this
    rw [this]
    simp only [date]
    by_cases hd' : dall (L s) = true
    · rw [if_pos hd', if_pos ⟨by omega, hd'⟩]
    · rw [if_neg hd', if_neg (fun q => hd' q.2)]

theorem next_some (s : ByteArray) (hs : Sm s) (hne : L s ≠ []) (k : Nat) (hk : 2 * s.size + 11 ≤ k) : tokens_next.f k s = some ((((next (L s)).1 : Nat) : Int), (((next (L s)).2 : Nat) : Int)) := by
  have hl := L_len s
  have h1 : 1 ≤ s.size := by
    rw [← hl]; cases h : L s with
    | nil => exact absurd h hne
    | cons => simp
  unfold tokens_next.f
  rw [mark_some s hne k (by omega), Option.bind_some]
  unfold next
  by_cases hm : 0 < mark (L s)
  · rw [if_pos (by omega), Option.bind_some, if_pos hm]; rfl
  · rw [if_neg (by omega), if_pos (by omega), if_pos (by omega), if_neg hm, run_lo _ (hs.ext 0 1), Option.bind_some, L_to]
    by_cases hlo : 0 < run lo ((L s).take 1)
    · rw [if_pos (by omega), word_some s hs k (by omega), Option.bind_some, if_pos hlo]; rfl
    · rw [if_neg (by omega), if_neg hlo, run_up _ (hs.ext 0 1), Option.bind_some, L_to]
      by_cases hup : 0 < run up ((L s).take 1)
      · rw [if_pos (by omega), code_some s hs, Option.bind_some, if_pos hup]; rfl
      · rw [if_neg (by omega), if_neg hup, date_some s hs k (by omega), Option.bind_some]
        by_cases hdt : 0 < date (L s)
        · rw [if_pos (by omega), Option.bind_some, if_pos hdt]; rfl
        · rw [if_neg (by omega), if_neg hdt, number_some s hs k (by omega), Option.bind_some]; rfl
end Go.Proofs.YthpnhmefjdfhfaaDoor.Tk
