/- Names: no kept word is one word, each with a letter more is; the two readings of a word and of a code agree: over the printed functions. -/
import Derived.Test.YthpnhmefjdfhfaaDoorTkCut
import Derived.Test.YthpnhmefjdfhfaaDoorPALLx7
namespace Go.Proofs.YthpnhmefjdfhfaaDoor.Tk
open Go.RowKit Go.Proofs.YthpnhmefjdfhfaaDoor.PALL Go.Proofs.YthpnhmefjdfhfaaDoorW.PrintWords Go.Proofs.YthpnhmefjdfhfaaDoorW.PrintLast

theorem awake_some (k : Nat) (hk : 200 ≤ k) : tollbooklaw12_awake.f k = some true := by
  unfold tollbooklaw12_awake.f
  rw [cut_some _ (by decide) k (by simp only [show (⟨#[114, 97, 116, 101, 32, 102, 111, 111, 100, 46, 98, 114, 101, 97, 100, 32, 55, 46, 53, 37]⟩ : ByteArray).size = 20 from rfl]; omega), Option.bind_some, cut_some _ (by decide) k (by simp only [show (⟨#[97, 32, 66]⟩ : ByteArray).size = 3 from rfl]; omega), Option.bind_some]
  decide +kernel
def nameOk (l : List UInt8) : Bool := decide (0 < l.length) && (decide (l.length ≤ 24) && (decide (part l = l.length) && !amongW 29 l))
theorem word_val (s : ByteArray) : tokens_Word.f s = some (nameOk (L s)) := by
  have hl := L_len s
  unfold tokens_Word.f nameOk
  by_cases h0 : s.size = 0
  · rw [if_pos h0]; simp [h0]
  · rw [if_neg h0]
    by_cases h1 : 24 < s.size
    · rw [if_pos h1]; simp; omega
    · have hd : 0 < (L s).length := by omega
      have hd2 : (L s).length ≤ 24 := by omega
      rw [if_neg h1, part_some s (by unfold Sm; omega), Option.bind_some, decide_eq_true hd, decide_eq_true hd2]
      by_cases h2 : part (L s) = (L s).length
      · rw [if_pos (by omega), decide_eq_true h2]; rfl
      · rw [if_neg (by omega), decide_eq_false h2]; rfl
theorem small_some (c : UInt8) : tollbookref12_Small.f (c.toNat : Int) = some (lo c) := by
  unfold tollbookref12_Small.f lo
  by_cases h : 97 ≤ c.toNat
  · rw [if_pos (by omega), decide_eq_true h, Bool.true_and]
    exact congrArg some (decide_eq_decide.2 (by omega))
  · rw [if_neg (by omega), decide_eq_false h, Bool.false_and]
theorem digit_some (c : UInt8) : tollbookref12_digit.f (c.toNat : Int) = some (dg c) := by
  unfold tollbookref12_digit.f dg
  by_cases h : 48 ≤ c.toNat
  · rw [if_pos (by omega), decide_eq_true h, Bool.true_and]
    exact congrArg some (decide_eq_decide.2 (by omega))
  · rw [if_neg (by omega), decide_eq_false h, Bool.false_and]
theorem capital_some (c : UInt8) : tollbookref12_capital.f (c.toNat : Int) = some (up c) := by
  unfold tollbookref12_capital.f up
  by_cases h : 65 ≤ c.toNat
  · rw [if_pos (by omega), decide_eq_true h, Bool.true_and]
    exact congrArg some (decide_eq_decide.2 (by omega))
  · rw [if_neg (by omega), decide_eq_false h, Bool.false_and]
theorem within_some (c : UInt8) : tollbookref12_within.f (c.toNat : Int) = some (wi c) := by
  unfold tollbookref12_within.f wi
  rw [small_some, Option.bind_some]
  by_cases h : lo c = true
  · rw [if_pos h, h]; rfl
  · rw [if_neg h, digit_some, Option.bind_some, Bool.eq_false_iff.2 h]
    by_cases h2 : dg c = true
    · rw [if_pos h2, h2]; rfl
    · rw [if_neg h2, Bool.eq_false_iff.2 h2]
      have e : ((c.toNat : Int) == 95) = decide (c.toNat = 95) := by
        rw [Bool.eq_iff_iff, beq_iff_eq, decide_eq_true_iff]; omega
      rw [e]; rfl
theorem refpart_loop (s : ByteArray) (hs : s.size ≤ 1000) : ∀ (m i k : Nat), i + m = s.size → tollbookref12_part.l0 (k + m + 1) s (i : Int) = some ((i + run wi ((L s).drop i) : Nat) : Int)
  | 0, i, k, hi => by
    have hl := L_len s
    rw [tollbookref12_part.l0, if_neg (by omega), List.drop_of_length_le (by omega), run_nil]; rfl
  | m + 1, i, k, hi => by
    have hlt : i < (L s).length := by rw [L_len]; omega
    have hd := List.drop_eq_getElem_cons hlt
    obtain ⟨c, hc⟩ : ∃ c, (L s)[i] = c := ⟨_, rfl⟩
    rw [hc] at hd
    obtain ⟨_, _, hb, _⟩ := drop_cons hd
    rw [show k + (m + 1) + 1 = (k + m + 1) + 1 from by omega, tollbookref12_part.l0, if_pos (by omega), if_pos (by omega), hb, within_some, Option.bind_some, hd, run_cons]
    by_cases h : wi c = true
    · rw [if_pos h, if_pos h, wrap_add1 i (by omega), refpart_loop s hs m (i + 1) k (by omega)]
      exact congrArg some (by omega)
    · rw [if_neg h, if_neg h]; rfl
theorem refpart_some (s : ByteArray) (hs : s.size ≤ 1000) (k : Nat) (hk : s.size + 2 ≤ k) : tollbookref12_part.f k s = some ((part (L s) : Nat) : Int) := by
  have hl := L_len s
  obtain ⟨k, rfl⟩ : ∃ j, k = j + s.size + 2 := ⟨k - s.size - 2, by omega⟩
  unfold tollbookref12_part.f
  cases hx : L s with
  | nil =>
    have h0 : s.size = 0 := by rw [hx] at hl; exact hl.symm
    rw [if_pos (by omega), tollbookref12_part.j0, if_pos rfl]; rfl
  | cons c r =>
    have h0 : s.size = r.length + 1 := by rw [hx] at hl; exact hl.symm
    have hd1 : (L s).drop 1 = r := by rw [hx]; rfl
    rw [if_neg (by omega), if_pos (by omega), bt_head s c r hx, small_some, Option.bind_some, tollbookref12_part.j0]
    by_cases h : lo c = true
    · have hw : wi c = true := by simp [wi, h]
      have := refpart_loop s hs r.length 1 (k + 1) (by omega)
      rw [hd1] at this
      rw [if_neg (by simp [h]), show k + s.size + 1 = k + 1 + r.length + 1 from by omega]
      refine Eq.trans this (congrArg some ?_)
      unfold part
      rw [run_cons, run_cons, if_pos h, if_pos hw, if_neg (by omega)]
      omega
    · rw [if_pos (by simp [h])]
      unfold part
      rw [run_cons, if_neg h, if_pos rfl]; rfl
theorem kept_loop (s : ByteArray) : ∀ (m i k : Nat), i + m = 29 → tollbookref12_kept.l0 (k + m + 1) s keptW (i : Int) = some ((List.range' i m).any fun j => L (wordAt j) == L s)
  | 0, i, k, hi => by
    have hl : keptW.length = 29 := rfl
    rw [tollbookref12_kept.l0, if_neg (by omega)]; rfl
  | m + 1, i, k, hi => by
    have hl : keptW.length = 29 := rfl
    rw [show k + (m + 1) + 1 = (k + m + 1) + 1 from by omega, tollbookref12_kept.l0, if_pos (by omega), if_pos (by omega), List.range'_succ, List.any_cons]
    have e : rdOf ByteArray.empty keptW (i : Int) = wordAt i := rfl
    rw [e, Lib.toList_data, Lib.toList_data]
    by_cases h : L (wordAt i) = L s
    · rw [if_pos h, beq_iff_eq.2 h]; rfl
    · rw [if_neg h, beq_eq_false_iff_ne.2 h, Bool.false_or, wrap_add1 i (by omega)]
      exact kept_loop s m (i + 1) k (by omega)
theorem kept_some (s : ByteArray) (k : Nat) (hk : 30 ≤ k) : tollbookref12_kept.f k s = some (amongW 29 (L s)) := by
  obtain ⟨k, rfl⟩ : ∃ j, k = j + 29 + 1 := ⟨k - 30, by omega⟩
  have := kept_loop s 29 0 k rfl
  rw [← List.range_eq_range'] at this
  exact this
theorem refword_some (s : ByteArray) (k : Nat) (hk : 100 ≤ k) : tollbookref12_Word.f k s = some (nameOk (L s)) := by
  have hl := L_len s
  unfold tollbookref12_Word.f nameOk
  by_cases h0 : 0 < s.size
  · rw [if_pos (by omega)]
    by_cases h1 : s.size ≤ 24
    · have hd : 0 < (L s).length := by omega
      have hd2 : (L s).length ≤ 24 := by omega
      rw [if_pos (by omega), refpart_some s (by omega) k (by omega), Option.bind_some, decide_eq_true hd, decide_eq_true hd2]
      by_cases h2 : part (L s) = (L s).length
      · rw [if_pos (by omega), decide_eq_true h2, kept_some s k (by omega)]; rfl
      · rw [if_neg (by omega), decide_eq_false h2]; rfl
    · rw [if_neg (by omega)]; simp; omega
  · rw [if_neg (by omega)]; simp; omega
theorem codes_same (s : ByteArray) : ∃ b, tokens_Code.f s = some b ∧ tollbookref12_Code.f s = some b := by
  have hl := L_len s
  unfold tokens_Code.f tollbookref12_Code.f
  by_cases h : (s.size : Int) = 3
  · rw [if_pos h, if_pos h, code_some s (by unfold Sm; omega)]
    match hx : L s, (show (L s).length = 3 by omega) with
    | [a, b, c], _ =>
      refine ⟨(((code [a, b, c] : Nat) : Int) == 3), rfl, ?_⟩
      have b0 : bt s 0 = a.toNat := bt_drop s 0 a [b, c] hx
      have b1 : bt s 1 = b.toNat := bt_drop s 1 b [c] (by rw [hx]; rfl)
      have b2 : bt s 2 = c.toNat := bt_drop s 2 c [] (by rw [hx]; rfl)
      unfold tollbookref12_code.f
      rw [if_pos (by omega), if_pos (by omega), if_pos (by omega), if_pos (by omega), b0, b1, b2, capital_some, capital_some, capital_some, Option.bind_some, Option.bind_some, Option.bind_some]
      cases ha : up a <;> cases hb : up b <;> cases hc : up c <;> simp [code, run, ha, hb, hc]
  · rw [if_neg h, if_neg h]; exact ⟨false, rfl, rfl⟩
theorem kept_no : ∀ i, i < 29 → nameOk (L (wordAt i)) = false ∧ nameOk (L (wordAt i ++ (⟨#[122]⟩ : ByteArray))) = true ∧ (wordAt i).size ≤ 100 := by
  have h : ((List.range 29).all fun i => !nameOk (L (wordAt i)) && (nameOk (L (wordAt i ++ (⟨#[122]⟩ : ByteArray))) && decide ((wordAt i).size ≤ 100))) = true := by decide +kernel
  intro i hi
  have := List.all_eq_true.1 h i (List.mem_range.2 hi)
  simpa using this
theorem rd_kept (i : Nat) : rdOf ByteArray.empty keptW (i : Int) = wordAt i := by
  unfold rdOf wordAt; rw [toNat_cast]
theorem kept_len : ((keptW.length : Nat) : Int) = 29 := rfl
theorem names_end (s : ByteArray) (k : Nat) : tollbooklaw12_TokensNames.l0 (k + 300) s keptW ((29 : Nat) : Int) = some true := by
  obtain ⟨b, c1, c2⟩ := codes_same s
  have h1 : ¬ ((29 : Nat) : Int) < 29 := by omega
  rw [tollbooklaw12_TokensNames.l0, kept_len, if_neg h1, word_val, Option.bind_some, refword_some s _ (by omega), Option.bind_some, if_pos (by simp), c1, Option.bind_some, c2, Option.bind_some, if_pos (by simp), awake_some _ (by omega)]; rfl
theorem names_step (s : ByteArray) (k i : Nat) (hi : i < 29) : tollbooklaw12_TokensNames.l0 (k + 1) s keptW (i : Int) = tollbooklaw12_TokensNames.l0 k s keptW ((i + 1 : Nat) : Int) := by
  obtain ⟨w1, w2, w3⟩ := kept_no i hi
  have h1 : ((i : Nat) : Int) < 29 := by omega
  have h2 : 0 ≤ ((i : Nat) : Int) := by omega
  have h3 : (wordAt i).size + 1 ≤ 9223372036854775807 := by omega
  have hw := wrap_add1 i (by omega)
  rw [tollbooklaw12_TokensNames.l0, kept_len, if_pos h1, if_pos h2, rd_kept, word_val, w1, Option.bind_some, if_neg Bool.false_ne_true, if_pos h3, word_val, w2, Option.bind_some, if_pos rfl, hw]
theorem names_loop (s : ByteArray) (k : Nat) : ∀ (m i : Nat), i + m = 29 → tollbooklaw12_TokensNames.l0 ((k + 300) + m) s keptW (i : Int) = some true
  | 0, i, hi => by
    rw [Nat.add_zero, show i = 29 from hi]; exact names_end s k
  | m + 1, i, hi => by
    rw [← Nat.add_assoc, names_step s _ i (by omega)]; exact names_loop s k m (i + 1) (by omega)
theorem TokensNames_some (s : ByteArray) : tollbooklaw12_TokensNames.f ((0 + 300) + 29) s = some true := by
  unfold tollbooklaw12_TokensNames.f
  have h : tollbooklaw12_kept.f = some keptW := rfl
  rw [h, Option.bind_some]
  exact names_loop s 0 29 0 (by omega)
theorem TokensNames_pure : tollbooklaw12_TokensNames.Pure := fun s _ => ⟨(0 + 300) + 29, TokensNames_some s⟩
end Go.Proofs.YthpnhmefjdfhfaaDoor.Tk
