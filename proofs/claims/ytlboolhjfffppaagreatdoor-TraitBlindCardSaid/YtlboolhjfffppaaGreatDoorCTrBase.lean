/- Conditions as trees, and what they hold for: the part that no reference is asked for. -/
import Derived.Test.YtlboolhjfffppaaGreatDoorCTrTree
import Derived.Test.YtlboolhjfffppaaGreatDoorPBLIx5
import Derived.Test.YtlboolhjfffppaaGreatDoorPBLIx13
import Derived.Test.YtlboolhjfffppaaGreatDoorPBLIx12
import Derived.Test.YtlboolhjfffppaaGreatDoorPBLIx14
namespace Go.Proofs.YtlboolhjfffppaaGreatDoor.CTr
open Go Go.RowKit Go.Proofs.YtlboolhjfffppaaGreatDoor.PBLI Go.Proofs.YtlboolhjfffppaaGreatDoorW.PrintWords Go.Proofs.YtlboolhjfffppaaGreatDoorW.PrintLast
set_option linter.unusedVariables false
def Tr.root : Tr → S44
  | .mk n _ => n
theorem awake_at : tollbooklaw13_awake.f 40 = some true := by decide +kernel
theorem awake_some : ∀ k, 40 ≤ k → tollbooklaw13_awake.f k = some true := by
  intro k hk
  obtain ⟨j, rfl⟩ : ∃ j, k = 40 + j := ⟨k - 40, by omega⟩
  induction j with
  | zero => exact awake_at
  | succ j ih => exact tollbooklaw13_awake.mono (40 + j) _ (ih (by omega))
def Tr.kids : Tr → List Tr
  | .mk _ ks => ks
theorem wfs_mem (F : S44 → Bool) (a b : Int) : ∀ (ts : List Tr), wfs F a b ts → ∀ t ∈ ts, t.wf F a b
  | [], _, t, h => by cases h
  | x :: xs, hw, t, h => by
    rw [wfs] at hw
    rcases List.mem_cons.1 h with rfl | h
    · exact hw.1
    · exact wfs_mem F a b xs hw.2 t h
theorem flat_root (t : Tr) : t.flat = t.root :: flats t.kids := by
  cases t; rw [Tr.flat]; first | done | rfl
theorem fmB_leaf (m : S44) (h : fmB m = true) (h1 : ¬ (m.f0 = 1 ∨ m.f0 = 2)) (h3 : ¬ m.f0 = 3) : m.f1 = 0 ∧ (m.f0 = 4 ∨ m.f0 = 5 ∨ m.f0 = 6 ∨ m.f0 = 7) := by
  unfold fmB at h
  rw [if_neg h1, if_neg h3] at h
  split at h
  · simp only [Bool.and_eq_true, decide_eq_true_iff] at h; omega
  · split at h
    · simp only [Bool.and_eq_true, decide_eq_true_iff] at h; omega
    · cases h
theorem fmB_not (m : S44) (h : fmB m = true) (h3 : m.f0 = 3) : m.f1 = 1 := by
  unfold fmB at h
  rw [if_neg (by omega), if_pos h3] at h
  simp only [Bool.and_eq_true, decide_eq_true_iff] at h
  exact h.2
theorem one_kid {ts : List Tr} (h : ts.length = 1) : ∃ t, ts = [t] := by
  cases ts with
  | nil => cases h
  | cons t ts => cases ts with
    | nil => exact ⟨t, rfl⟩
    | cons _ _ => simp at h
theorem flat_pos (t : Tr) : 1 ≤ t.flat.length := by rw [flat_root, List.length_cons]; omega
section
variable (T : S44 → Bool)
mutual
def Tr.ev : Tr → Bool
  | .mk n ks => if n.f0 = 1 then evAny ks else if n.f0 = 2 then evAll ks else if n.f0 = 3 then !evAll ks else T n
def evAny : List Tr → Bool
  | [] => false
  | t :: ts => t.ev || evAny ts
def evAll : List Tr → Bool
  | [] => true
  | t :: ts => t.ev && evAll ts
end
def evN : List Tr → Nat
  | [] => 0
  | t :: ts => (if t.ev T = true then 1 else 0) + evN ts
theorem evN_le : ∀ ts : List Tr, evN T ts ≤ ts.length
  | [] => Nat.le_refl _
  | t :: ts => by have := evN_le ts; rw [evN, List.length_cons]; split <;> omega
theorem evN_all : ∀ ts : List Tr, evAll T ts = decide (evN T ts = ts.length)
  | [] => by rw [evAll, evN]; rfl
  | t :: ts => by
    have h := evN_le T ts
    rw [evAll, evN, evN_all ts, List.length_cons]
    cases t.ev T with
    | true => rw [if_pos rfl, Bool.true_and]; exact decide_eq_decide.2 (by omega)
    | false => rw [if_neg Bool.false_ne_true, Bool.false_and]; exact (decide_eq_false (by omega)).symm
theorem evN_any : ∀ ts : List Tr, evAny T ts = decide (0 < evN T ts)
  | [] => by rw [evAny, evN]; rfl
  | t :: ts => by
    rw [evAny, evN, evN_any ts]
    cases t.ev T with
    | true => rw [if_pos rfl, Bool.true_or]; exact (decide_eq_true (by omega)).symm
    | false => rw [if_neg Bool.false_ne_true, Bool.false_or]; exact decide_eq_decide.2 (by omega)
theorem kidsH_spec (l : List S44) (P : Nat → Option (Bool × Nat)) : ∀ (ts : List Tr) (s i : Nat) (rest : List S44),
    (∀ t ∈ ts, ∀ i rest, l.drop i = t.flat ++ rest → P i = some (t.ev T, i + t.flat.length)) → l.drop i = flats ts ++ rest → kidsH P ts.length s i = some (s + evN T ts, i + (flats ts).length)
  | [], s, i, rest, _, _ => by simp only [evN, show flats [] = [] from by rw [flats], kidsH, List.length_nil, Nat.add_zero]
  | t :: ts, s, i, rest, hP, hd => by
    rw [flats, List.append_assoc] at hd
    have hdj : l.drop (i + t.flat.length) = flats ts ++ rest := by rw [← List.drop_drop, hd, List.drop_left]
    rw [List.length_cons, kidsH, hP t List.mem_cons_self i _ hd, Option.bind_some, kidsH_spec l P ts _ _ rest (fun x hx => hP x (List.mem_cons_of_mem _ hx)) hdj,
      show (flats (t :: ts)).length = t.flat.length + (flats ts).length from by rw [flats, List.length_append], evN, Nat.add_assoc]
    simp only []
    split <;> congr 2 <;> omega
theorem fmB_group (m : S44) (h : fmB m = true) (h1 : m.f0 = 1 ∨ m.f0 = 2) : 2 ≤ m.f1 := by
  unfold fmB at h
  rw [if_pos h1] at h
  simp only [Bool.and_eq_true, decide_eq_true_iff] at h
  exact h.2
theorem holdsF_spec (P : S44 → Option Bool) (hP : ∀ m, fmB m = true → (m.f0 = 4 ∨ m.f0 = 5 ∨ m.f0 = 6 ∨ m.f0 = 7) → P m = some (T m)) (l : List S44) : ∀ (d : Nat) (t : Tr) (deep under : Int) (i : Nat) (rest : List S44), t.wf fmB deep under → 17 ≤ (d : Int) + deep → l.drop i = t.flat ++ rest → holdsF P l d i = some (t.ev T, i + t.flat.length)
  | 0, .mk n ks, deep, under, i, rest, hw, hd, _ => by rw [Tr.wf] at hw; omega
  | d + 1, .mk n ks, deep, under, i, rest, hw, hd, h => by
    rw [Tr.wf] at hw
    obtain ⟨h1, h2, h3, h4, h5⟩ := hw
    have hlt : i < l.length := by
      refine Nat.lt_of_not_le fun q => ?_
      rw [List.drop_of_length_le q, Tr.flat] at h
      cases h
    rw [rd_dropT l i hlt, Tr.flat, List.cons_append] at h
    obtain ⟨hn, h⟩ := List.cons.inj h
    rw [holdsF, if_pos hlt, hn, Tr.flat, List.length_cons, Nat.add_comm (flats ks).length, ← Nat.add_assoc]
    have hks : ∀ t ∈ ks, ∀ i rest, l.drop i = t.flat ++ rest → holdsF P l d i = some (t.ev T, i + t.flat.length) := fun t ht i rest hi =>
      holdsF_spec P hP l d t (deep + 1) n.f0 i rest (wfs_mem _ _ _ ks h5 t ht) (by omega) hi
    rw [Tr.ev]
    by_cases c1 : n.f0 = 1 ∨ n.f0 = 2
    · have h2n := fmB_group n h2 c1
      rw [if_pos c1, show n.f1.toNat = ks.length by omega, kidsH_spec T l _ ks 0 (i + 1) rest hks h, Option.map_some, Nat.zero_add, evN_any, evN_all]
      simp only []
      congr 2
      rcases c1 with c | c
      · rw [if_pos c, decide_eq_true c, Bool.true_and]
        by_cases q : 0 < evN T ks
        · rw [decide_eq_true (show (0 : Int) < (evN T ks : Int) by omega), Bool.or_true, decide_eq_true q]
        · rw [decide_eq_false (show ¬ (0 : Int) < (evN T ks : Int) by omega), Bool.or_false, decide_eq_false q]; exact decide_eq_false (by omega)
      · rw [if_neg (by omega), if_pos c, decide_eq_false (show ¬ n.f0 = 1 by omega), Bool.false_and, Bool.or_false]
        exact decide_eq_decide.2 (by omega)
    · rw [if_neg c1, if_neg (show ¬ n.f0 = 1 from fun q => c1 (Or.inl q)), if_neg (show ¬ n.f0 = 2 from fun q => c1 (Or.inr q))]
      by_cases c3 : n.f0 = 3
      · rw [if_pos c3, if_pos c3]
        obtain ⟨t, rfl⟩ := one_kid (ts := ks) (by have := fmB_not n h2 c3; omega)
        rw [flats, flats, List.append_nil] at h ⊢
        rw [hks t List.mem_cons_self (i + 1) rest h, Option.map_some, evAll, evAll, Bool.and_true]
      · rw [if_neg c3, if_neg c3, hP n h2 (fmB_leaf n h2 c1 c3).2]
        have : ks = [] := List.eq_nil_of_length_eq_zero (by have := (fmB_leaf n h2 c1 c3).1; omega)
        rw [this, flats]; rfl
end
theorem check_flat (t : Tr) (hw : t.wf fmB 1 0) (h64 : t.flat.length ≤ 64) (k : Nat) (hk : 6000 ≤ k) : traits_Check.f k t.flat = some 0 := by
  unfold traits_Check.f
  have hp := flat_pos t
  rw [if_neg (by omega), if_neg (by omega)]
  rcases tree_spec k fmB (formed_some k (by omega)) fmB_kids t.flat 20 1 0 0 (Nat.zero_le _) (by omega) (by omega) with ⟨t2, j, e, hw2, hd, _, hj⟩ | ⟨j, e, hj, hno⟩
  · rw [List.drop_zero] at hd
    obtain ⟨_, hr⟩ := flat_uniq fmB t 1 0 _ _ t2 [] _ hw hw2 (by rw [List.append_nil]; exact hd)
    have hjl : j = t.flat.length := by
      have := congrArg List.length hr
      rw [List.length_drop, List.length_nil] at this
      omega
    rw [e]
    show some (if true = true ∧ j = t.flat.length then (0 : Int) else 131) = some 0
    rw [if_pos ⟨rfl, hjl⟩]
  · exact absurd ⟨t, [], hw, by rw [List.drop_zero, List.append_nil]⟩ hno
theorem words_loop (xs : List ByteArray) (hx : xs.length ≤ 16) : ∀ (m i k : Nat), i + m = xs.length → ∃ b, traits_words.l0 (k + m + 1) xs xs (xs.length : Int) (i : Int) = some b
  | 0, i, k, hi => ⟨true, by rw [traits_words.l0, if_neg (by omega)]⟩
  | m + 1, i, k, hi => by
    obtain ⟨b, ih⟩ := words_loop xs hx m (i + 1) k (by omega)
    rw [show k + (m + 1) + 1 = k + m + 1 + 1 from by omega, traits_words.l0, if_pos (by omega), if_pos (by omega), if_pos (by omega), word_val, Option.bind_some]
    by_cases h : nameOk (L (rdOf ByteArray.empty xs (i : Int))) = true
    · rw [if_pos h]
      by_cases h0 : 0 < i
      · rw [if_pos (show (i : Int) > 0 by omega), wrap_id (x := (i : Int) - 1) (by omega) (by omega), if_pos (by omega), if_pos (by omega), wrap_add1 i (by omega)]
        split
        · exact ⟨b, ih⟩
        · exact ⟨false, rfl⟩
      · rw [if_neg (show ¬ (i : Int) > 0 by omega), wrap_add1 i (by omega)]; exact ⟨b, ih⟩
    · rw [if_neg h]; exact ⟨false, rfl⟩
theorem words_some (xs : List ByteArray) (k : Nat) (hk : 300 ≤ k) : ∃ b, traits_words.f k xs = some b := by
  unfold traits_words.f
  by_cases h : (xs.length : Int) > 16
  · rw [if_pos h]; exact ⟨false, rfl⟩
  · rw [if_neg h]
    obtain ⟨k, rfl⟩ : ∃ j, k = j + xs.length + 1 := ⟨k - xs.length - 1, by omega⟩
    exact words_loop xs (by omega) xs.length 0 k (by omega)
theorem fitp_some (lB lL : List ByteArray) (a b c : Int) (k : Nat) (hk : 300 ≤ k) : ∃ h, traits_Fit.f k lB lL a b c = some h := by
  obtain ⟨b1, h1⟩ := words_some lB k hk
  obtain ⟨b2, h3⟩ := words_some lL k hk
  unfold traits_Fit.f
  rw [h1, h3, Option.bind_some, Option.bind_some]
  cases b1 with
  | false => exact ⟨141, rfl⟩
  | true =>
    rw [if_pos rfl]
    cases b2 with
    | false => exact ⟨141, rfl⟩
    | true =>
      rw [if_pos rfl]
      by_cases c1 : b < 0
      · rw [if_pos c1]; exact ⟨_, rfl⟩
      · rw [if_neg c1]
        by_cases c2 : b > 4
        · rw [if_pos c2]; exact ⟨_, rfl⟩
        · rw [if_neg c2]
          by_cases c3 : a < 0
          · rw [if_pos c3]; exact ⟨_, rfl⟩
          · rw [if_neg c3]
            by_cases c4 : c < 0
            · rw [if_pos c4]; exact ⟨_, rfl⟩
            · rw [if_neg c4]; exact ⟨_, rfl⟩
theorem index_loop (l : List ByteArray) (a : ByteArray) (hl : l.length ≤ 1000) : ∀ (m i k : Nat), i + m = l.length → ∃ r, slices_Index_string_string.l0 (k + m + 1) l a (l.length : Int) (i : Int) = some r
  | 0, i, k, hi => ⟨-1, by rw [slices_Index_string_string.l0, if_neg (by omega)]⟩
  | m + 1, i, k, hi => by
    obtain ⟨r, ih⟩ := index_loop l a hl m (i + 1) k (by omega)
    rw [show k + (m + 1) + 1 = (k + m + 1) + 1 from by omega, slices_Index_string_string.l0, if_pos (by omega), if_pos (by omega), if_pos (by omega), wrap_add1 i (by omega)]
    split
    · exact ⟨_, rfl⟩
    · exact ⟨r, ih⟩
theorem contains_ok (l : List ByteArray) (a : ByteArray) (hl : l.length ≤ 16) (k : Nat) (hk : 6000 ≤ k) : ∃ b, slices_Contains_string_string.f k l a = some b := by
  obtain ⟨j, rfl⟩ : ∃ j, k = j + l.length + 1 := ⟨k - l.length - 1, by omega⟩
  obtain ⟨r, hr⟩ := index_loop l a (by omega) l.length 0 j (by omega)
  unfold slices_Contains_string_string.f slices_Index_string_string.f
  rw [show ((0 : Nat) : Int) = 0 from rfl] at hr
  rw [hr, Option.bind_some]
  exact ⟨_, rfl⟩
def TT (k : Nat) (lB lL : List ByteArray) (fa fd fq : Int) (m : S44) : Bool :=
  if m.f0 = 4 then (slices_Contains_string_string.f k lB m.f2).getD false
  else if m.f0 = 5 then (slices_Contains_string_string.f k lL m.f2).getD false
  else if m.f0 = 6 then agF m.f3 (cmpI (fa.toNat * 10 ^ m.f4.f1.toNat) (m.f4.f0.toNat * 10 ^ fd.toNat))
  else agF m.f3 (cmpI (fq.toNat * 10 ^ m.f4.f1.toNat) (m.f4.f0.toNat * 10 ^ (0 : Int).toNat))
structure Fits (lB lL : List ByteArray) (fa fd fq : Int) : Prop where
  b : lB.length ≤ 16
  l : lL.length ≤ 16
  a0 : 0 ≤ fa
  a1 : fa ≤ 9223372036854775807
  d0 : 0 ≤ fd
  d1 : fd ≤ 4
  q0 : 0 ≤ fq
  q1 : fq ≤ 9223372036854775807
theorem fmB_test (m : S44) (h : fmB m = true) (h6 : m.f0 = 6 ∨ m.f0 = 7) : 1 ≤ m.f3 ∧ m.f3 ≤ 4 ∧ 0 ≤ m.f4.f0 ∧ decB m.f4.f0 m.f4.f1 = true := by
  unfold fmB at h
  rw [if_neg (by omega), if_neg (by omega), if_neg (by omega), if_pos h6] at h
  simp only [Bool.and_eq_true, decide_eq_true_iff] at h
  exact ⟨h.2.2.1, h.2.2.2.1, h.2.2.2.2.1, h.2.2.2.2.2⟩
theorem dec_ok (u p : Int) (h0 : 0 ≤ u) (h1 : u ≤ 9223372036854775807) (h : decB u p = true) : decOk u p = true := by
  unfold decB at h
  simp only [Bool.and_eq_true, Bool.or_eq_true, decide_eq_true_iff, Bool.not_eq_true', decide_eq_false_iff_not] at h
  unfold decOk
  refine decide_eq_true ⟨h0, by omega, h.1, h.2.1, fun hp => ?_⟩
  rcases h.2.2 with h | h
  · omega
  · exact h
theorem test_ok {lB lL : List ByteArray} {fa fd fq : Int} (hF : Fits lB lL fa fd fq) (k : Nat) (hk : 6000 ≤ k) (m : S44) (h : fmB m = true) (hl : m.f0 = 4 ∨ m.f0 = 5 ∨ m.f0 = 6 ∨ m.f0 = 7) (hu : m.f4.f0 ≤ 9223372036854775807) : testF k lB lL fa fd fq m = some (TT k lB lL fa fd fq m) := by
  unfold testF traits_test.f TT
  by_cases c4 : m.f0 = 4
  · rw [if_pos c4, if_pos c4]
    obtain ⟨b, hb⟩ := contains_ok lB m.f2 hF.b k hk
    rw [hb]; rfl
  · rw [if_neg c4, if_neg c4]
    by_cases c5 : m.f0 = 5
    · rw [if_pos c5, if_pos c5]
      obtain ⟨b, hb⟩ := contains_ok lL m.f2 hF.l k hk
      rw [hb]; rfl
    · rw [if_neg c5, if_neg c5]
      obtain ⟨_, _, h0, hd⟩ := fmB_test m h (by omega)
      have hdo := dec_ok _ _ h0 hu hd
      by_cases c6 : m.f0 = 6
      · rw [if_pos c6, if_pos c6]
        unfold traits_against.f
        rw [if_pos ⟨by omega, ⟨hF.a0, by have := hF.a1; omega⟩, ⟨hF.d0, hF.d1⟩, hdo⟩, Option.bind_some]
      · rw [if_neg c6, if_neg c6]
        unfold traits_against.f
        rw [if_pos ⟨by omega, ⟨hF.q0, by have := hF.q1; omega⟩, ⟨by omega, by omega⟩, hdo⟩, Option.bind_some]
theorem holdsF_congr (P P' : S44 → Option Bool) (l : List S44) (h : ∀ i, i < l.length → ¬ ((rd_T44 l (i : Int)).f0 = 1 ∨ (rd_T44 l (i : Int)).f0 = 2) → ¬ (rd_T44 l (i : Int)).f0 = 3 → P (rd_T44 l (i : Int)) = P' (rd_T44 l (i : Int))) : ∀ d, holdsF P l d = holdsF P' l d
  | 0 => by funext i; rfl
  | d + 1 => by
    funext i
    have ih := holdsF_congr P P' l h d
    rw [holdsF, holdsF, ih]
    by_cases hi : i < l.length
    · rw [if_pos hi, if_pos hi]
      by_cases c1 : (rd_T44 l (i : Int)).f0 = 1 ∨ (rd_T44 l (i : Int)).f0 = 2
      · rw [if_pos c1, if_pos c1]
      · rw [if_neg c1, if_neg c1]
        by_cases c3 : (rd_T44 l (i : Int)).f0 = 3
        · rw [if_pos c3, if_pos c3]
        · rw [if_neg c3, if_neg c3, h i hi c1 c3]
    · rw [if_neg hi, if_neg hi]
mutual
theorem flat_fm : ∀ (t : Tr) (a b : Int), t.wf fmB a b → ∀ n ∈ t.flat, fmB n = true
  | .mk n ks, a, b, hw, m, hm => by
    rw [Tr.wf] at hw
    rw [Tr.flat] at hm
    rcases List.mem_cons.1 hm with rfl | hm
    · exact hw.2.1
    · exact flats_fm ks _ _ hw.2.2.2.2 m hm
theorem flats_fm : ∀ (ts : List Tr) (a b : Int), wfs fmB a b ts → ∀ n ∈ flats ts, fmB n = true
  | [], a, b, _, m, hm => by rw [flats] at hm; cases hm
  | t :: ts, a, b, hw, m, hm => by
    rw [wfs] at hw
    rw [flats] at hm
    rcases List.mem_append.1 hm with hm | hm
    · exact flat_fm t a b hw.1 m hm
    · exact flats_fm ts a b hw.2 m hm
end
def Low (n : S44) : Prop := n.f4.f0 ≤ 9223372036854775807
theorem words_len (k : Nat) (l : List ByteArray) (h : traits_words.f k l = some true) : l.length ≤ 16 := by
  unfold traits_words.f at h
  by_cases c : (l.length : Int) > 16
  · rw [if_pos c] at h; cases h
  · omega
theorem fits_of {k : Nat} {lB lL : List ByteArray} {fa fd fq : Int} (h : traits_Fit.f k lB lL fa fd fq = some 0) (ha : fa ≤ 9223372036854775807) (hq : fq ≤ 9223372036854775807) : Fits lB lL fa fd fq := by
  unfold traits_Fit.f at h
  obtain ⟨b1, h1, h⟩ := Option.bind_eq_some_iff.1 h
  cases b1 with
  | false => rw [if_neg Bool.false_ne_true] at h; cases h
  | true =>
    rw [if_pos rfl] at h
    obtain ⟨b2, h2, h⟩ := Option.bind_eq_some_iff.1 h
    cases b2 with
    | false => rw [if_neg Bool.false_ne_true] at h; cases h
    | true =>
      rw [if_pos rfl] at h
      by_cases c1 : fd < 0
      · rw [if_pos c1] at h; cases h
      · rw [if_neg c1] at h
        by_cases c2 : fd > 4
        · rw [if_pos c2] at h; cases h
        · rw [if_neg c2] at h
          by_cases c3 : fa < 0
          · rw [if_pos c3] at h; cases h
          · rw [if_neg c3] at h
            by_cases c4 : fq < 0
            · rw [if_pos c4] at h; cases h
            · exact ⟨words_len k lB h1, words_len k lL h2, by omega, ha, by omega, by omega, by omega, hq⟩
theorem rd_mem (l : List S44) (i : Nat) (h : i < l.length) : rd_T44 l (i : Int) ∈ l := by
  have := rd_dropT l i h
  exact List.mem_of_mem_drop (i := i) (by rw [this]; exact List.mem_cons_self)
theorem holds_flat {lB lL : List ByteArray} {fa fd fq : Int} (t : Tr) (hw : t.wf fmB 1 0) (h64 : t.flat.length ≤ 64) (hlow : ∀ n ∈ t.flat, Low n) (k : Nat) (hk : 6000 ≤ k) (hF : Fits lB lL fa fd fq) (hfit : traits_Fit.f k lB lL fa fd fq = some 0) :
    traits_Holds.f k t.flat lB lL fa fd fq = some (t.ev (TT k lB lL fa fd fq), 0) := by
  have hp := flat_pos t
  have hc := holdsF_congr (testF k lB lL fa fd fq) (fun m => some (TT k lB lL fa fd fq m)) t.flat (fun i hi c1 c3 => by
    have hm := rd_mem t.flat i hi
    have hfm := flat_fm t 1 0 hw _ hm
    exact test_ok hF k hk _ hfm (fmB_leaf _ hfm c1 c3).2 (hlow _ hm)) 20
  unfold traits_Holds.f
  rw [check_flat t hw h64 k hk, Option.bind_some, if_pos rfl, hfit, Option.bind_some, if_pos rfl, if_neg (by omega), hc, holdsF_spec (TT k lB lL fa fd fq) (fun m => some (TT k lB lL fa fd fq m)) (fun m _ _ => rfl) t.flat 20 t 1 0 0 [] hw (by omega) (by rw [List.drop_zero, List.append_nil])]
  rfl
end Go.Proofs.YtlboolhjfffppaaGreatDoor.CTr
