/- The law of classes: the two readings of a class, and of what covers it, agree: over the printed functions. -/
import Derived.Test.YtkghkpmolcbmmaaGreatDoorTrClass
import Derived.Test.YtkghkpmolcbmmaaGreatDoorPALLx7
import Derived.Test.YtkghkpmolcbmmaaGreatDoorPALLx6
import Derived.Test.YtkghkpmolcbmmaaGreatDoorPALLx8
import Derived.Test.YtkghkpmolcbmmaaGreatDoorPALLx5
import Derived.Test.YtkghkpmolcbmmaaGreatDoorPALLx6
import Derived.Test.YtkghkpmolcbmmaaGreatDoorPALLx17
import Derived.Test.YtkghkpmolcbmmaaGreatDoorPALLx18
namespace Go.Proofs.YtkghkpmolcbmmaaGreatDoor.Tr
open Go Go.RowKit Go.Proofs.YtkghkpmolcbmmaaGreatDoor.PALL Go.Proofs.YtkghkpmolcbmmaaGreatDoorW.PrintWords Go.Proofs.YtkghkpmolcbmmaaGreatDoorW.PrintLast
theorem equal_loop (xs ys : List ByteArray) (hx : xs.length ≤ 1000) (hl : xs.length = ys.length) : ∀ (m i k : Nat), i + m = xs.length →
    slices_Equal_string_string.l0 (k + m + 1) xs ys (xs.length : Int) (i : Int) = some (decide (xs.drop i = ys.drop i))
  | 0, i, k, hi => by
    rw [slices_Equal_string_string.l0, if_neg (by omega), List.drop_of_length_le (by omega), List.drop_of_length_le (by omega)]; rfl
  | m + 1, i, k, hi => by
    rw [show k + (m + 1) + 1 = (k + m + 1) + 1 from by omega, slices_Equal_string_string.l0, if_pos (by omega), if_pos (by omega), if_pos (by omega), if_pos (by omega), rd_drop xs i (by omega), rd_drop ys i (by omega), Lib.toList_data, Lib.toList_data]
    by_cases h : L (rdOf ByteArray.empty xs (i : Int)) = L (rdOf ByteArray.empty ys (i : Int))
    · rw [if_pos h, wrap_add1 i (by omega), equal_loop xs ys hx hl m (i + 1) k (by omega)]
      have e := L_inj h
      exact congrArg some (decide_eq_decide.2 ⟨fun q => by rw [e, q], fun q => (List.cons.inj q).2⟩)
    · rw [if_neg h]
      exact congrArg some (decide_eq_false (fun q => h (by rw [(List.cons.inj q).1]))).symm
theorem equal_some (xs ys : List ByteArray) (hx : xs.length ≤ 8) (k : Nat) (hk : 10 ≤ k) : slices_Equal_string_string.f k xs ys = some (decide (xs = ys)) := by
  unfold slices_Equal_string_string.f
  by_cases h : xs.length = ys.length
  · rw [if_pos (by omega)]
    obtain ⟨k, rfl⟩ : ∃ j, k = j + xs.length + 1 := ⟨k - xs.length - 1, by omega⟩
    exact equal_loop xs ys (by omega) h xs.length 0 k (by omega)
  · rw [if_neg (by omega)]
    exact congrArg some (decide_eq_false (fun q => h (by rw [q]))).symm
theorem nil_iff (s : ByteArray) : (s.toList = ([] : List UInt8)) ↔ s.size = 0 := by
  rw [Lib.toList_data, ← L_len, List.length_eq_zero_iff]
theorem covers_some (over cls : ByteArray) (ho : over.size < 4294967281) (hc : cls.size < 4294967281) (k : Nat) (hk : 20 ≤ k) : traits_Covers.f k over cls = some (coversV over cls) := by
  obtain ⟨k, rfl⟩ : ∃ j, k = j + 1 := ⟨k - 1, by omega⟩
  unfold traits_Covers.f
  rw [class_some cls hc (k + 1) (by omega), Option.bind_some]
  unfold coversV
  by_cases h1 : classOk cls = true
  · unfold classV
    rw [if_pos h1, if_pos rfl, traits_Covers.j0, h1, Bool.true_and]
    by_cases h2 : over.size = 0
    · rw [if_pos (beq_iff_eq.2 ((nil_iff over).2 h2)), decide_eq_true h2]; rfl
    · rw [if_neg (fun e => h2 ((nil_iff over).1 (beq_iff_eq.1 e))), class_some over ho k (by omega), Option.bind_some, decide_eq_false h2, Bool.false_or]
      unfold classV
      by_cases h3 : classOk over = true
      · rw [if_pos h3, if_pos rfl, h3, Bool.true_and]
        have h8 := ((classOk_iff over).1 h3).1
        by_cases h4 : (partsV over).length ≤ (partsV cls).length
        · rw [if_pos (by exact_mod_cast h4), if_pos (by omega), Int.toNat_natCast, equal_some _ _ h8 k (by omega), Option.bind_some]
          exact congrArg some (decide_eq_decide.2 List.prefix_iff_eq_take.symm)
        · rw [if_neg (fun e => h4 (by exact_mod_cast e))]
          exact congrArg some (decide_eq_false (fun q => h4 q.length_le)).symm
      · rw [if_neg h3, if_neg (by decide), Bool.eq_false_iff.2 h3, Bool.false_and]
  · unfold classV
    rw [if_neg h1, if_neg (by decide), traits_Covers.j0, if_pos rfl, Bool.eq_false_iff.2 h1, Bool.false_and]; rfl
theorem awake_at : tollbooklaw13_awake.f 40 = some true := by decide +kernel
theorem awake_some : ∀ k, 40 ≤ k → tollbooklaw13_awake.f k = some true := by
  intro k hk
  obtain ⟨j, rfl⟩ : ∃ j, k = 40 + j := ⟨k - 40, by omega⟩
  induction j with
  | zero => exact awake_at
  | succ j ih => exact tollbooklaw13_awake.mono (40 + j) _ (ih (by omega))
theorem bt_get (s : ByteArray) (i : Nat) (h : i < s.size) : bt s i = ((L s)[i]'(by rw [L_len]; exact h)).toNat := by
  unfold bt
  rw [dif_pos (by simpa using h)]
  rfl
theorem bt_drop (s : ByteArray) (i : Nat) (c : UInt8) (r : List UInt8) (h : (L s).drop i = c :: r) : bt s i = c.toNat := by
  have hl := L_len s
  have hi : i < s.size := by
    rcases Nat.lt_or_ge i s.size with q | q
    · exact q
    · rw [List.drop_of_length_le (by omega)] at h; cases h
  rw [bt_get s i hi]
  have : (L s)[i]'(by rw [hl]; exact hi) = c := by
    have := List.getElem_drop (xs := L s) (i := i) (j := 0) (h := by rw [h]; simp)
    simp [h] at this
    exact this.symm
  rw [this]
theorem bt_head (s : ByteArray) (c : UInt8) (r : List UInt8) (h : L s = c :: r) : bt s 0 = c.toNat := by
  have hl := L_len s
  rw [h] at hl
  unfold bt
  have h0 : (0 : Int).toNat < s.size := by simp at hl ⊢; omega
  rw [dif_pos h0]
  have : s[(0 : Int).toNat]'h0 = (L s)[0]'(by rw [h]; simp) := rfl
  rw [this]
  simp [h]
theorem drop_cons {s : ByteArray} {p : Nat} {c : UInt8} {r : List UInt8} (h : (L s).drop p = c :: r) : p < s.size ∧ (L s).drop (p + 1) = r ∧ bt s (p : Int) = c.toNat ∧ s.size - p = r.length + 1 := by
  have hl := L_len s
  have hlen := congrArg List.length h
  rw [List.length_drop, hl, List.length_cons] at hlen
  refine ⟨by omega, by rw [← List.drop_drop, h]; rfl, bt_drop s p c r h, hlen⟩
theorem small_some (c : UInt8) : tollbookref12_Small.f (c.toNat : Int) = some (lo c) := by
  unfold tollbookref12_Small.f lo
  by_cases h : 97 ≤ c.toNat
  · rw [if_pos (by omega), decide_eq_true h, Bool.true_and]
    exact congrArg some (decide_eq_decide.2 (by omega))
  · rw [if_neg (by omega), decide_eq_false h, Bool.false_and]
theorem digit_some (c : UInt8) : tollbookref12_digit.f (c.toNat : Int) = some (dg c) := by
  unfold tollbookref12_digit.f dg
  by_cases h : 48 ≤ c.toNat
  · rw [if_pos (by omega), decide_eq_true h, Bool.true_and]
    exact congrArg some (decide_eq_decide.2 (by omega))
  · rw [if_neg (by omega), decide_eq_false h, Bool.false_and]
theorem within_some (c : UInt8) : tollbookref12_within.f (c.toNat : Int) = some (wi c) := by
  unfold tollbookref12_within.f wi
  rw [small_some, Option.bind_some]
  by_cases h : lo c = true
  · rw [if_pos h, h]; rfl
  · rw [if_neg h, digit_some, Option.bind_some, Bool.eq_false_iff.2 h]
    by_cases h2 : dg c = true
    · rw [if_pos h2, h2]; rfl
    · rw [if_neg h2, Bool.eq_false_iff.2 h2]
      have e : ((c.toNat : Int) == 95) = decide (c.toNat = 95) := by
        rw [Bool.eq_iff_iff, beq_iff_eq, decide_eq_true_iff]; omega
      rw [e]; rfl
theorem refpart_loop (s : ByteArray) (hs : s.size ≤ 1000) : ∀ (m i k : Nat), i + m = s.size → tollbookref12_part.l0 (k + m + 1) s (i : Int) = some ((i + run wi ((L s).drop i) : Nat) : Int)
  | 0, i, k, hi => by
    have hl := L_len s
    rw [tollbookref12_part.l0, if_neg (by omega), List.drop_of_length_le (by omega), run_nil]; rfl
  | m + 1, i, k, hi => by
    have hlt : i < (L s).length := by rw [L_len]; omega
    have hd := List.drop_eq_getElem_cons hlt
    obtain ⟨c, hc⟩ : ∃ c, (L s)[i] = c := ⟨_, rfl⟩
    rw [hc] at hd
    obtain ⟨_, _, hb, _⟩ := drop_cons hd
    rw [show k + (m + 1) + 1 = (k + m + 1) + 1 from by omega, tollbookref12_part.l0, if_pos (by omega), if_pos (by omega), hb, within_some, Option.bind_some, hd, run_cons]
    by_cases h : wi c = true
    · rw [if_pos h, if_pos h, wrap_add1 i (by omega), refpart_loop s hs m (i + 1) k (by omega)]
      exact congrArg some (by omega)
    · rw [if_neg h, if_neg h]; rfl
theorem refpart_some (s : ByteArray) (hs : s.size ≤ 1000) (k : Nat) (hk : s.size + 2 ≤ k) : tollbookref12_part.f k s = some ((part (L s) : Nat) : Int) := by
  have hl := L_len s
  obtain ⟨k, rfl⟩ : ∃ j, k = j + s.size + 2 := ⟨k - s.size - 2, by omega⟩
  unfold tollbookref12_part.f
  cases hx : L s with
  | nil =>
    have h0 : s.size = 0 := by rw [hx] at hl; exact hl.symm
    rw [if_pos (by omega), tollbookref12_part.j0, if_pos rfl]; rfl
  | cons c r =>
    have h0 : s.size = r.length + 1 := by rw [hx] at hl; exact hl.symm
    have hd1 : (L s).drop 1 = r := by rw [hx]; rfl
    rw [if_neg (by omega), if_pos (by omega), bt_head s c r hx, small_some, Option.bind_some, tollbookref12_part.j0]
    by_cases h : lo c = true
    · have hw : wi c = true := by simp [wi, h]
      have := refpart_loop s hs r.length 1 (k + 1) (by omega)
      rw [hd1] at this
      rw [if_neg (by simp [h]), show k + s.size + 1 = k + 1 + r.length + 1 from by omega]
      refine Eq.trans this (congrArg some ?_)
      unfold part
      rw [run_cons, run_cons, if_pos h, if_pos hw, if_neg (by omega)]
      omega
    · rw [if_pos (by simp [h])]
      unfold part
      rw [run_cons, if_neg h, if_pos rfl]; rfl
theorem kept_loop (s : ByteArray) : ∀ (m i k : Nat), i + m = 29 → tollbookref12_kept.l0 (k + m + 1) s keptW (i : Int) = some ((List.range' i m).any fun j => L (wordAt j) == L s)
  | 0, i, k, hi => by
    have hl : keptW.length = 29 := rfl
    rw [tollbookref12_kept.l0, if_neg (by omega)]; rfl
  | m + 1, i, k, hi => by
    have hl : keptW.length = 29 := rfl
    rw [show k + (m + 1) + 1 = (k + m + 1) + 1 from by omega, tollbookref12_kept.l0, if_pos (by omega), if_pos (by omega), List.range'_succ, List.any_cons]
    have e : rdOf ByteArray.empty keptW (i : Int) = wordAt i := rfl
    rw [e, Lib.toList_data, Lib.toList_data]
    by_cases h : L (wordAt i) = L s
    · rw [if_pos h, beq_iff_eq.2 h]; rfl
    · rw [if_neg h, beq_eq_false_iff_ne.2 h, Bool.false_or, wrap_add1 i (by omega)]
      exact kept_loop s m (i + 1) k (by omega)
theorem kept_some (s : ByteArray) (k : Nat) (hk : 30 ≤ k) : tollbookref12_kept.f k s = some (amongW 29 (L s)) := by
  obtain ⟨k, rfl⟩ : ∃ j, k = j + 29 + 1 := ⟨k - 30, by omega⟩
  have := kept_loop s 29 0 k rfl
  rw [← List.range_eq_range'] at this
  exact this
theorem refword_some (s : ByteArray) (k : Nat) (hk : 100 ≤ k) : tollbookref12_Word.f k s = some (nameOk (L s)) := by
  have hl := L_len s
  unfold tollbookref12_Word.f nameOk
  by_cases h0 : 0 < s.size
  · rw [if_pos (by omega)]
    by_cases h1 : s.size ≤ 24
    · have hd : 0 < (L s).length := by omega
      have hd2 : (L s).length ≤ 24 := by omega
      rw [if_pos (by omega), refpart_some s (by omega) k (by omega), Option.bind_some, decide_eq_true hd, decide_eq_true hd2]
      by_cases h2 : part (L s) = (L s).length
      · rw [if_pos (by omega), decide_eq_true h2, kept_some s k (by omega)]; rfl
      · rw [if_neg (by omega), decide_eq_false h2]; rfl
    · rw [if_neg (by omega)]; simp; omega
  · rw [if_neg (by omega)]; simp; omega
theorem take_more (l : List UInt8) (f i : Nat) (c : UInt8) (r : List UInt8) (hf : f ≤ i) (h : l.drop i = c :: r) : (l.drop f).take (i + 1 - f) = (l.drop f).take (i - f) ++ [c] := by
  have hd : (l.drop f).drop (i - f) = c :: r := by rw [List.drop_drop, show f + (i - f) = i from by omega, h]
  have hlen : i - f < (l.drop f).length := by
    rcases Nat.lt_or_ge (i - f) (l.drop f).length with q | q
    · exact q
    · rw [List.drop_of_length_le q] at hd; cases hd
  rw [show i + 1 - f = (i - f) + 1 from by omega, List.take_succ_eq_append_getElem hlen]
  have := List.drop_eq_getElem_cons hlen
  rw [hd] at this
  rw [(List.cons.inj this).1]
theorem drop_parts (l : List UInt8) (f i : Nat) (hf : f ≤ i) : l.drop f = (l.drop f).take (i - f) ++ l.drop i := by
  conv => lhs; rw [← List.take_append_drop (i - f) (l.drop f)]
  rw [List.drop_drop, show f + (i - f) = i from by omega]
theorem ext_bs (s : ByteArray) (f i : Nat) : s.extract ((f : Int).toNat) ((i : Int).toNat) = bs (((L s).drop f).take (i - f)) := by
  apply L_inj
  rw [L_ext, L_bs, Int.toNat_natCast, Int.toNat_natCast]
theorem parts_loop (s : ByteArray) (hs : s.size ≤ 2000000) : ∀ (m i f k : Nat) (acc : List ByteArray), i + m = s.size → f ≤ i → (46 : UInt8) ∉ ((L s).drop f).take (i - f) → acc.length ≤ i →
    tollbookref13_Parts.l0 (k + m + 2) s acc (f : Int) (i : Int) = some (acc ++ (splitL 46 ((L s).drop f)).map bs)
  | 0, i, f, k, acc, hi, hf, h46, ha => by
    have hl := L_len s
    have hall : ((L s).drop f).take (i - f) = (L s).drop f := List.take_of_length_le (by rw [List.length_drop]; omega)
    rw [hall] at h46
    rw [tollbookref13_Parts.l0, if_pos (by omega), if_pos (by omega), if_pos (by omega), if_pos (by omega), if_pos (by omega), ext_bs, hall, wrap_add1 i (by omega), tollbookref13_Parts.l0, if_neg (by omega), split_free 46 _ h46]; rfl
  | m + 1, i, f, k, acc, hi, hf, h46, ha => by
    have hl := L_len s
    have hlt : i < (L s).length := by omega
    have hd := List.drop_eq_getElem_cons hlt
    obtain ⟨c, hc⟩ : ∃ c, (L s)[i] = c := ⟨_, rfl⟩
    rw [hc] at hd
    obtain ⟨_, _, hb, _⟩ := drop_cons hd
    rw [show k + (m + 1) + 2 = (k + m + 2) + 1 from by omega, tollbookref13_Parts.l0, if_pos (by omega), if_neg (by omega), if_pos (by omega), if_pos (by omega), hb]
    by_cases h : c = 46
    · rw [if_pos (by rw [h]; rfl), if_pos (by omega), if_pos (by omega), if_pos (by omega), ext_bs, wrap_add1 i (by omega), parts_loop s hs m (i + 1) (i + 1) k _ (by omega) (Nat.le_refl _) (by simp) (by rw [List.length_append, List.length_cons, List.length_nil]; omega)]
      have e := drop_parts (L s) f i hf
      obtain ⟨pre, hpre⟩ : ∃ pre, ((L s).drop f).take (i - f) = pre := ⟨_, rfl⟩
      rw [hpre] at h46 e ⊢
      rw [hd, h] at e
      rw [e, split_at 46 _ _ h46, List.map_cons, List.append_assoc]; rfl
    · have hne : ¬ ((c.toNat : Nat) : Int) = 46 := by
        intro e
        have e : c.toNat = 46 := by omega
        exact h (UInt8.toNat_inj.1 e)
      rw [if_neg hne, wrap_add1 i (by omega)]
      refine parts_loop s hs m (i + 1) f k acc (by omega) (by omega) ?_ (by omega)
      rw [take_more (L s) f i c _ hf hd]
      intro hm
      rcases List.mem_append.1 hm with hm | hm
      · exact h46 hm
      · exact h (List.mem_singleton.1 hm).symm
theorem refparts_some (s : ByteArray) (hs : s.size ≤ 2000000) (k : Nat) (hk : s.size + 2 ≤ k) : tollbookref13_Parts.f k s = some (partsV s) := by
  obtain ⟨k, rfl⟩ : ∃ j, k = j + s.size + 2 := ⟨k - s.size - 2, by omega⟩
  have := parts_loop s hs s.size 0 0 k [] (by omega) (Nat.le_refl _) (by simp) (by simp)
  unfold tollbookref13_Parts.f
  exact this
theorem refclass_loop (xs : List ByteArray) (hx : xs.length ≤ 8) : ∀ (m i k : Nat), i + m = xs.length → 200 ≤ k →
    tollbookref13_Class.l0 (k + m + 1) xs (i : Int) = some (if (xs.drop i).all goodW = true then (xs, 0) else ([], 140))
  | 0, i, k, hi, hk => by
    rw [tollbookref13_Class.l0, if_neg (by omega), List.drop_of_length_le (by omega)]; rfl
  | m + 1, i, k, hi, hk => by
    rw [show k + (m + 1) + 1 = (k + m + 1) + 1 from by omega, tollbookref13_Class.l0, if_pos (by omega), if_pos (by omega), refword_some _ _ (by omega), Option.bind_some, rd_drop xs i (by omega), List.all_cons]
    by_cases h : nameOk (L (rdOf ByteArray.empty xs (i : Int))) = true
    · rw [if_pos h, wrap_add1 i (by omega), refclass_loop xs hx m (i + 1) k (by omega) hk]
      rw [show goodW (rdOf ByteArray.empty xs (i : Int)) = true from h, Bool.true_and]
    · rw [if_neg h]
      rw [show goodW (rdOf ByteArray.empty xs (i : Int)) = false from Bool.eq_false_iff.2 h, Bool.false_and, if_neg Bool.false_ne_true]
theorem refclass_some (s : ByteArray) (hs : s.size ≤ 2000000) (k : Nat) (hk : s.size + 300 ≤ k) : tollbookref13_Class.f k s = some (classV s) := by
  unfold tollbookref13_Class.f classV classOk
  rw [refparts_some s hs k (by omega), Option.bind_some]
  by_cases h : (partsV s).length ≤ 8
  · rw [if_neg (by omega), decide_eq_true h, Bool.true_and]
    obtain ⟨k, rfl⟩ : ∃ j, k = j + (partsV s).length + 1 := ⟨k - (partsV s).length - 1, by omega⟩
    exact refclass_loop (partsV s) h (partsV s).length 0 k (by omega) (by omega)
  · rw [if_pos (by omega), decide_eq_false h, Bool.false_and, if_neg Bool.false_ne_true]
theorem refcov_loop (xs ys : List ByteArray) (hx : ys.length ≤ 8) (hl : ys.length ≤ xs.length) : ∀ (m i k : Nat), i + m = ys.length →
    tollbookref13_Covers.l0 (k + m + 1) xs ys (i : Int) = some (decide (ys.drop i <+: xs.drop i))
  | 0, i, k, hi => by
    rw [tollbookref13_Covers.l0, if_neg (by omega), List.drop_of_length_le (by omega)]
    exact congrArg some (decide_eq_true (List.nil_prefix)).symm
  | m + 1, i, k, hi => by
    rw [show k + (m + 1) + 1 = (k + m + 1) + 1 from by omega, tollbookref13_Covers.l0, if_pos (by omega), if_pos (by omega), if_pos (by omega), rd_drop xs i (by omega), rd_drop ys i (by omega), Lib.toList_data, Lib.toList_data]
    by_cases h : L (rdOf ByteArray.empty ys (i : Int)) = L (rdOf ByteArray.empty xs (i : Int))
    · rw [if_pos h, wrap_add1 i (by omega), refcov_loop xs ys hx hl m (i + 1) k (by omega)]
      exact congrArg some (decide_eq_decide.2 (by rw [List.cons_prefix_cons]; exact ⟨fun q => ⟨L_inj h, q⟩, fun q => q.2⟩))
    · rw [if_neg h]
      exact congrArg some (decide_eq_false (fun q => h (by rw [(List.cons_prefix_cons.1 q).1]))).symm
theorem refcovers_some (over cls : ByteArray) (ho : over.size ≤ 2000000) (hc : cls.size ≤ 2000000) (k : Nat) (hk : over.size + cls.size + 400 ≤ k) : tollbookref13_Covers.f k over cls = some (coversV over cls) := by
  obtain ⟨k, rfl⟩ : ∃ j, k = j + 1 := ⟨k - 1, by omega⟩
  unfold tollbookref13_Covers.f
  rw [refclass_some cls hc (k + 1) (by omega), Option.bind_some]
  unfold coversV
  by_cases h1 : classOk cls = true
  · unfold classV
    rw [if_pos h1, if_pos rfl, h1, Bool.true_and]
    by_cases h2 : over.size = 0
    · rw [if_pos ((nil_iff over).2 h2), decide_eq_true h2]; rfl
    · rw [if_neg (fun e => h2 ((nil_iff over).1 e)), refclass_some over ho (k + 1) (by omega), Option.bind_some, decide_eq_false h2, Bool.false_or]
      unfold classV
      by_cases h3 : classOk over = true
      · rw [if_pos h3, if_pos rfl, h3, Bool.true_and, tollbookref13_Covers.j0]
        have h8 := ((classOk_iff over).1 h3).1
        by_cases h4 : (partsV over).length ≤ (partsV cls).length
        · rw [if_neg (by simp only [decide_eq_true_iff]; omega)]
          obtain ⟨k, rfl⟩ : ∃ j, k = j + (partsV over).length + 1 := ⟨k - (partsV over).length - 1, by omega⟩
          exact refcov_loop _ _ h8 h4 (partsV over).length 0 k (by omega)
        · rw [if_pos (by simp only [decide_eq_true_iff]; omega)]
          exact congrArg some (decide_eq_false (fun q => h4 q.length_le)).symm
      · rw [if_neg h3, if_neg (by decide), tollbookref13_Covers.j0, if_pos rfl, Bool.eq_false_iff.2 h3, Bool.false_and]
  · unfold classV
    rw [if_neg h1, if_neg (by decide), Bool.eq_false_iff.2 h1, Bool.false_and]
theorem same_loop (xs : List ByteArray) (hx : xs.length ≤ 1000) : ∀ (m i k : Nat), i + m = xs.length → tollbookkit_SameTexts.l0 (k + m + 1) xs xs (i : Int) = some true
  | 0, i, k, hi => by rw [tollbookkit_SameTexts.l0, if_neg (by omega)]
  | m + 1, i, k, hi => by
    rw [show k + (m + 1) + 1 = (k + m + 1) + 1 from by omega, tollbookkit_SameTexts.l0, if_pos (by omega), if_pos (by omega), if_pos (by omega), if_pos rfl, wrap_add1 i (by omega), same_loop xs hx m (i + 1) k (by omega)]
theorem same_some (xs : List ByteArray) (hx : xs.length ≤ 1000) (k : Nat) (hk : xs.length + 1 ≤ k) : tollbookkit_SameTexts.f k xs xs = some true := by
  unfold tollbookkit_SameTexts.f
  obtain ⟨k, rfl⟩ : ∃ j, k = j + xs.length + 1 := ⟨k - xs.length - 1, by omega⟩
  rw [if_pos rfl]; exact same_loop xs hx xs.length 0 k (by omega)
theorem classV_len (s : ByteArray) : (classV s).1.length ≤ 8 := by
  unfold classV
  by_cases h : classOk s = true
  · rw [if_pos h]; exact ((classOk_iff s).1 h).1
  · rw [if_neg h]; simp
theorem TraitClasses_some (a b : ByteArray) (ha : a.size ≤ 2000000) (hb : b.size ≤ 2000000) : tollbooklaw13_TraitClasses.f 5000000 a b = some true := by
  have h8 := classV_len b
  unfold tollbooklaw13_TraitClasses.f
  rw [class_some b (by omega) _ (by omega), Option.bind_some, refclass_some b hb _ (by omega), Option.bind_some, if_pos rfl, same_some _ (by omega) _ (by omega), Option.bind_some, if_pos rfl,
    covers_some a b (by omega) (by omega) _ (by omega), Option.bind_some, refcovers_some a b ha hb _ (by omega), Option.bind_some, if_pos (beq_self_eq_true _),
    covers_some b a (by omega) (by omega) _ (by omega), Option.bind_some, refcovers_some b a hb ha _ (by omega), Option.bind_some, if_pos (beq_self_eq_true _), awake_some _ (by omega)]; rfl
end Go.Proofs.YtkghkpmolcbmmaaGreatDoor.Tr
