/- TraitBlind: what a condition doesn't name plays no part: facts that agree on what is named, asked. -/
import Derived.Test.YtlboolhjfffppaaGreatDoorCTrNames
import Derived.Test.YtlboolhjfffppaaGreatDoorBliLaw
namespace Go.Proofs.YtlboolhjfffppaaGreatDoor.CTr
open Go Go.RowKit Go.Proofs.YtlboolhjfffppaaGreatDoor.PBLI Go.Proofs.YtlboolhjfffppaaGreatDoorW.PrintWords Go.Proofs.YtlboolhjfffppaaGreatDoorW.PrintLast
set_option linter.unusedVariables false
theorem has_loop (xs : List ByteArray) (s : ByteArray) (hx : xs.length ≤ 1000) : ∀ (m i k : Nat), i + m = xs.length → tollbooklaw13_has.l0 (k + m + 1) xs s (i : Int) = some (decide (L s ∈ rawT (xs.drop i)))
  | 0, i, k, hi => by
    rw [tollbooklaw13_has.l0, if_neg (by omega), List.drop_of_length_le (by omega)]; rfl
  | m + 1, i, k, hi => by
    have hlt : i < xs.length := by omega
    have hr := rd_drop xs i hlt
    rw [show k + (m + 1) + 1 = (k + m + 1) + 1 from by omega, tollbooklaw13_has.l0, if_pos (by omega), if_pos (by omega), wrap_add1 i (by omega), has_loop xs s hx m (i + 1) k (by omega), hr]
    rw [show rawT (rdOf ByteArray.empty xs (i : Int) :: xs.drop (i + 1)) = L (rdOf ByteArray.empty xs (i : Int)) :: rawT (xs.drop (i + 1)) from rfl, Lib.toList_data, Lib.toList_data]
    by_cases h : (rdOf ByteArray.empty xs (i : Int)).data.toList = s.data.toList
    · rw [if_pos h]; exact congrArg some (decide_eq_true (List.mem_cons.2 (Or.inl h.symm))).symm
    · rw [if_neg h]; exact congrArg some (decide_eq_decide.2 ⟨List.mem_cons_of_mem _, fun q => (List.mem_cons.1 q).resolve_left fun e => h e.symm⟩)
theorem has_some (xs : List ByteArray) (s : ByteArray) (hx : xs.length ≤ 1000) (k : Nat) (hk : xs.length + 1 ≤ k) : tollbooklaw13_has.f k xs s = some (decide (L s ∈ rawT xs)) := by
  obtain ⟨k, rfl⟩ : ∃ j, k = j + xs.length + 1 := ⟨k - xs.length - 1, by omega⟩
  exact has_loop xs s hx xs.length 0 k (by omega)
def Adds (x0 x2 acc r : List ByteArray) (i : Nat) : Prop := ∀ z ∈ rawT x2, (z ∈ rawT r ↔ z ∈ rawT acc ∨ z ∈ rawT (x0.drop i))
theorem mem_snoc (acc : List ByteArray) (y : ByteArray) (z : List UInt8) : z ∈ rawT (acc ++ [y]) ↔ z ∈ rawT acc ∨ z = L y := by
  rw [raw_append, List.mem_append]
  exact or_congr Iff.rfl List.mem_singleton
theorem Adds.push0 {x0 x2 acc r : List ByteArray} {i : Nat} (hi : i < x0.length) (h : Adds x0 x2 (acc ++ [rdOf ByteArray.empty x0 (i : Int)]) r (i + 1)) : Adds x0 x2 acc r i := fun z hz => by
  rw [h z hz, mem_snoc, rd_drop x0 i hi, show rawT (rdOf ByteArray.empty x0 (i : Int) :: x0.drop (i + 1)) = L (rdOf ByteArray.empty x0 (i : Int)) :: rawT (x0.drop (i + 1)) from rfl, List.mem_cons, or_assoc]
theorem Adds.skip0 {x0 x2 acc r : List ByteArray} {i : Nat} (hi : i < x0.length) (hn : ¬ L (rdOf ByteArray.empty x0 (i : Int)) ∈ rawT x2) (h : Adds x0 x2 acc r (i + 1)) : Adds x0 x2 acc r i := fun z hz => by
  rw [h z hz, rd_drop x0 i hi, show rawT (rdOf ByteArray.empty x0 (i : Int) :: x0.drop (i + 1)) = L (rdOf ByteArray.empty x0 (i : Int)) :: rawT (x0.drop (i + 1)) from rfl, List.mem_cons]
  exact or_congr Iff.rfl ⟨Or.inr, fun q => q.resolve_left fun e => hn (e ▸ hz)⟩
theorem Adds.push1 {x0 x2 acc r : List ByteArray} {i : Nat} {y : ByteArray} (hn : ¬ L y ∈ rawT x2) (h : Adds x0 x2 (acc ++ [y]) r i) : Adds x0 x2 acc r i := fun z hz => by
  rw [h z hz, mem_snoc]
  exact or_congr ⟨fun q => q.resolve_right fun e => hn (e ▸ hz), Or.inl⟩ Iff.rfl
theorem named_loop (x0 x1 x2 : List ByteArray) (h0 : x0.length ≤ 100) (h1 : x1.length ≤ 100) (h2 : x2.length ≤ 100) : ∀ (m i j K : Nat) (acc : List ByteArray), (x0.length - i) + (x1.length - j) ≤ m → i ≤ x0.length → j ≤ x1.length → 5 * m + 300 ≤ K → acc.length + 2 * m ≤ 1000 → m ≤ 300 →
    ∃ r, tollbooklaw13_named.l0 K x0 x1 x2 acc (i : Int) (j : Int) = some r ∧ r.length ≤ acc.length + 2 * m ∧ Adds x0 x2 acc r i := by
  intro m
  induction m with
  | zero =>
    intro i j K acc hm hi hj hK ha hm3
    obtain ⟨k, rfl⟩ : ∃ k, K = k + 1 + 1 := ⟨K - 2, by omega⟩
    rw [tollbooklaw13_named.l0, if_neg (by omega), decide_eq_false (by omega), tollbooklaw13_named.j1, if_neg Bool.false_ne_true]
    exact ⟨acc, rfl, Nat.le_refl _, fun z _ => by rw [List.drop_of_length_le (by omega)]; exact ⟨Or.inl, fun q => q.elim id fun q => absurd q (by simp [rawT])⟩⟩
  | succ m ih =>
    intro i j K acc hm hi hj hK ha hm3
    obtain ⟨k, rfl⟩ : ∃ k, K = k + 1 + 1 + 1 + 1 + 1 := ⟨K - 5, by omega⟩
    have hhas : ∀ (s : ByteArray) (K : Nat), 200 ≤ K → tollbooklaw13_has.f K x2 s = some (decide (L s ∈ rawT x2)) := fun s K hK => has_some x2 s (by omega) K (by omega)
    have hj3 : ∀ acc' : List ByteArray, acc'.length ≤ acc.length + 1 → i < x0.length → (x1.length - j = 0 → acc'.length ≤ acc.length + 1) → ∃ r, tollbooklaw13_named.j3 (k + 1 + 1) x0 x1 x2 acc' (i : Int) (j : Int) = some r ∧ r.length ≤ acc.length + 2 * (m + 1) ∧ Adds x0 x2 acc' r (i + 1) := by
      intro acc' hacc hi2 _
      have hfalse : ∃ r, tollbooklaw13_named.j4 (k + 1) x0 x1 x2 acc' (i : Int) (j : Int) false = some r ∧ r.length ≤ acc.length + 2 * (m + 1) ∧ Adds x0 x2 acc' r (i + 1) := by
        rw [tollbooklaw13_named.j4, if_neg Bool.false_ne_true, wrap_add1 i (by omega)]
        obtain ⟨r, e, hr, hA⟩ := ih (i + 1) j k acc' (by omega) (by omega) hj (by omega) (by omega) (by omega)
        exact ⟨r, e, by omega, hA⟩
      rw [tollbooklaw13_named.j3]
      by_cases c1 : j < x1.length
      · rw [if_pos (by omega), if_pos (by omega), if_pos (by omega), if_pos (by omega)]
        cases hb : ((rdOf ByteArray.empty x1 (j : Int)).toList == (rdOf ByteArray.empty x0 (i : Int)).toList) with
        | false => exact hfalse
        | true =>
          rw [tollbooklaw13_named.j4, if_pos rfl, if_pos (by omega), if_pos (by omega), hhas _ k (by omega), Option.bind_some, wrap_add1 i (by omega), wrap_add1 j (by omega)]
          by_cases c2 : L (rdOf ByteArray.empty x1 (j : Int)) ∈ rawT x2
          · rw [decide_eq_true c2, if_pos rfl]
            obtain ⟨r, e, hr, hA⟩ := ih (i + 1) (j + 1) k acc' (by omega) (by omega) (by omega) (by omega) (by omega) (by omega)
            exact ⟨r, e, by omega, hA⟩
          · rw [decide_eq_false c2, if_neg Bool.false_ne_true, if_pos (by omega)]
            obtain ⟨r, e, hr, hA⟩ := ih (i + 1) (j + 1) k (acc' ++ [rdOf ByteArray.empty x1 (j : Int)]) (by omega) (by omega) (by omega) (by omega) (by rw [List.length_append, List.length_singleton]; omega) (by omega)
            exact ⟨r, e, by rw [List.length_append, List.length_singleton] at hr; omega, hA.push1 c2⟩
      · rw [if_neg (by omega)]; exact hfalse
    have hj2t : i < x0.length → ∃ r, tollbooklaw13_named.j2 (k + 1 + 1 + 1) x0 x1 x2 acc (i : Int) (j : Int) true = some r ∧ r.length ≤ acc.length + 2 * (m + 1) ∧ Adds x0 x2 acc r i := by
      intro hi2
      rw [tollbooklaw13_named.j2, if_pos rfl, if_pos (by omega), if_pos (by omega), hhas _ _ (by omega), Option.bind_some]
      by_cases c2 : L (rdOf ByteArray.empty x0 (i : Int)) ∈ rawT x2
      · rw [decide_eq_true c2, if_pos rfl, if_pos (by omega)]
        obtain ⟨r, e, hr, hA⟩ := hj3 (acc ++ [rdOf ByteArray.empty x0 (i : Int)]) (by rw [List.length_append, List.length_singleton]; omega) hi2 (fun _ => by rw [List.length_append, List.length_singleton]; omega)
        exact ⟨r, e, hr, hA.push0 hi2⟩
      · rw [decide_eq_false c2, if_neg Bool.false_ne_true]
        obtain ⟨r, e, hr, hA⟩ := hj3 acc (by omega) hi2 (fun _ => by omega)
        exact ⟨r, e, hr, hA.skip0 hi2 c2⟩
    have hj2f : j < x1.length → ∃ r, tollbooklaw13_named.j2 (k + 1 + 1 + 1) x0 x1 x2 acc (i : Int) (j : Int) false = some r ∧ r.length ≤ acc.length + 2 * (m + 1) ∧ Adds x0 x2 acc r i := by
      intro hj2
      rw [tollbooklaw13_named.j2, if_neg Bool.false_ne_true, if_pos (by omega), if_pos (by omega), hhas _ _ (by omega), Option.bind_some, wrap_add1 j (by omega)]
      by_cases c2 : L (rdOf ByteArray.empty x1 (j : Int)) ∈ rawT x2
      · rw [decide_eq_true c2, if_pos rfl]
        obtain ⟨r, e, hr, hA⟩ := ih i (j + 1) (k + 1 + 1) acc (by omega) hi (by omega) (by omega) (by omega) (by omega)
        exact ⟨r, e, by omega, hA⟩
      · rw [decide_eq_false c2, if_neg Bool.false_ne_true, if_pos (by omega)]
        obtain ⟨r, e, hr, hA⟩ := ih i (j + 1) (k + 1 + 1) (acc ++ [rdOf ByteArray.empty x1 (j : Int)]) (by omega) hi (by omega) (by omega) (by rw [List.length_append, List.length_singleton]; omega) (by omega)
        exact ⟨r, e, by rw [List.length_append, List.length_singleton] at hr; omega, hA.push1 c2⟩
    have hj1 : i < x0.length ∨ j < x1.length → ∃ r, tollbooklaw13_named.j1 (k + 1 + 1 + 1 + 1) x0 x1 x2 acc (i : Int) (j : Int) true = some r ∧ r.length ≤ acc.length + 2 * (m + 1) ∧ Adds x0 x2 acc r i := by
      intro hor
      rw [tollbooklaw13_named.j1, if_pos rfl]
      by_cases c1 : j < x1.length
      · rw [if_neg (by omega)]
        by_cases c2 : i < x0.length
        · rw [if_pos (by omega), if_pos (by omega), if_pos (by omega), if_pos (by omega)]
          cases (!(Op.bytesLess ((rdOf ByteArray.empty x1 (j : Int)).toList) ((rdOf ByteArray.empty x0 (i : Int)).toList))) with
          | true => exact hj2t c2
          | false => exact hj2f c1
        · rw [if_neg (by omega)]; exact hj2f c1
      · rw [if_pos (by omega)]; exact hj2t (hor.resolve_right c1)
    rw [tollbooklaw13_named.l0]
    by_cases c1 : i < x0.length
    · rw [if_pos (by omega)]; exact hj1 (Or.inl c1)
    · rw [if_neg (by omega)]
      by_cases c2 : j < x1.length
      · rw [decide_eq_true (show (j : Int) < (x1.length : Int) by omega)]; exact hj1 (Or.inr c2)
      · rw [decide_eq_false (show ¬ (j : Int) < (x1.length : Int) by omega), tollbooklaw13_named.j1, if_neg Bool.false_ne_true]
        exact ⟨acc, rfl, Nat.le_add_right _ _, fun z _ => by rw [List.drop_of_length_le (by omega)]; exact ⟨Or.inl, fun q => q.elim id fun q => absurd q (by simp [rawT])⟩⟩
theorem named_some (x0 x1 x2 : List ByteArray) (h0 : x0.length ≤ 100) (h1 : x1.length ≤ 100) (h2 : x2.length ≤ 100) (k : Nat) (hk : 6000 ≤ k) : ∃ r, tollbooklaw13_named.f k x0 x1 x2 = some r ∧ r.length ≤ 400 ∧ ∀ z ∈ rawT x2, (z ∈ rawT r ↔ z ∈ rawT x0) := by
  obtain ⟨r, e, hr, hA⟩ := named_loop x0 x1 x2 h0 h1 h2 (x0.length + x1.length) 0 0 k [] (by omega) (Nat.zero_le _) (Nat.zero_le _) (by omega) (by rw [List.length_nil]; omega) (by omega)
  refine ⟨r, e, by rw [List.length_nil] at hr; omega, fun z hz => ?_⟩
  rw [hA z hz, List.drop_zero]
  exact ⟨fun q => q.resolve_left (by simp [rawT]), Or.inr⟩
theorem index_mem (l : List ByteArray) (a : ByteArray) (hl : l.length ≤ 1000) : ∀ (m i k : Nat), i + m = l.length → ∃ r : Int, slices_Index_string_string.l0 (k + m + 1) l a (l.length : Int) (i : Int) = some r ∧ (r ≥ 0 ↔ L a ∈ rawT (l.drop i))
  | 0, i, k, hi => ⟨-1, by rw [slices_Index_string_string.l0, if_neg (by omega)], by rw [List.drop_of_length_le (by omega)]; exact ⟨fun q => absurd q (by decide), fun q => absurd q (by simp [rawT])⟩⟩
  | m + 1, i, k, hi => by
    obtain ⟨r, ih, hr⟩ := index_mem l a hl m (i + 1) k (by omega)
    have hlt : i < l.length := by omega
    rw [show k + (m + 1) + 1 = (k + m + 1) + 1 from by omega, slices_Index_string_string.l0, if_pos (by omega), if_pos (by omega), if_pos (by omega), wrap_add1 i (by omega), rd_drop l i hlt,
      show rawT (rdOf ByteArray.empty l (i : Int) :: l.drop (i + 1)) = L (rdOf ByteArray.empty l (i : Int)) :: rawT (l.drop (i + 1)) from rfl, Lib.toList_data, Lib.toList_data]
    by_cases h : a.data.toList = (rdOf ByteArray.empty l (i : Int)).data.toList
    · rw [if_pos h]; exact ⟨_, rfl, fun _ => List.mem_cons.2 (Or.inl h), fun _ => by omega⟩
    · rw [if_neg h]; exact ⟨r, ih, hr.trans ⟨List.mem_cons_of_mem _, fun q => (List.mem_cons.1 q).resolve_left h⟩⟩
theorem contains_mem (l : List ByteArray) (a : ByteArray) (hl : l.length ≤ 1000) (k : Nat) (hk : 6000 ≤ k) : slices_Contains_string_string.f k l a = some (decide (L a ∈ rawT l)) := by
  obtain ⟨j, rfl⟩ : ∃ j, k = j + l.length + 1 := ⟨k - l.length - 1, by omega⟩
  obtain ⟨r, h1, h2⟩ := index_mem l a hl l.length 0 j (by omega)
  unfold slices_Contains_string_string.f slices_Index_string_string.f
  rw [show ((0 : Nat) : Int) = 0 from rfl] at h1
  rw [h1, Option.bind_some]
  rw [List.drop_zero] at h2
  exact congrArg some (decide_eq_decide.2 h2)
mutual
theorem ev_congr (T T' : S44 → Bool) : ∀ (t : Tr) (a b : Int), t.wf fmB a b → (∀ n ∈ t.flat, (n.f0 = 4 ∨ n.f0 = 5 ∨ n.f0 = 6 ∨ n.f0 = 7) → T n = T' n) → t.ev T = t.ev T'
  | .mk n ks, a, b, hw, h => by
    rw [Tr.wf] at hw
    rw [Tr.flat] at h
    obtain ⟨i1, i2⟩ := evs_congr T T' ks _ _ hw.2.2.2.2 (fun m hm => h m (List.mem_cons_of_mem _ hm))
    rw [Tr.ev, Tr.ev, i1, i2]
    by_cases c1 : n.f0 = 1
    · rw [if_pos c1, if_pos c1]
    · rw [if_neg c1, if_neg c1]
      by_cases c2 : n.f0 = 2
      · rw [if_pos c2, if_pos c2]
      · rw [if_neg c2, if_neg c2]
        by_cases c3 : n.f0 = 3
        · rw [if_pos c3, if_pos c3]
        · rw [if_neg c3, if_neg c3]
          exact h n List.mem_cons_self (fmB_leaf n hw.2.1 (fun q => q.elim c1 c2) c3).2
theorem evs_congr (T T' : S44 → Bool) : ∀ (ts : List Tr) (a b : Int), wfs fmB a b ts → (∀ n ∈ flats ts, (n.f0 = 4 ∨ n.f0 = 5 ∨ n.f0 = 6 ∨ n.f0 = 7) → T n = T' n) → evAny T ts = evAny T' ts ∧ evAll T ts = evAll T' ts
  | [], a, b, _, _ => by rw [evAny, evAny, evAll, evAll]; exact ⟨rfl, rfl⟩
  | t :: ts, a, b, hw, h => by
    rw [wfs] at hw
    rw [flats] at h
    obtain ⟨i1, i2⟩ := evs_congr T T' ts a b hw.2 (fun m hm => h m (List.mem_append_right _ hm))
    have i0 := ev_congr T T' t a b hw.1 (fun m hm => h m (List.mem_append_left _ hm))
    rw [evAny, evAny, evAll, evAll, i0, i1, i2]
    exact ⟨rfl, rfl⟩
end
theorem names_in (kd : Int) (l : List S44) (n : S44) (h : n ∈ l) (h0 : n.f0 = kd) : L n.f2 ∈ rawT (tidy (namesK kd l)) := by
  rw [(tidy_rise (namesK kd l)).2]
  exact List.mem_map.2 ⟨n.f2, List.mem_map.2 ⟨n, List.mem_filter.2 ⟨h, decide_eq_true h0⟩, rfl⟩, rfl⟩
theorem compact_len (d : Array (List UInt8)) (m : Nat) : (Lib.compactUpTo d m).length ≤ m := by
  rw [Lib.compactUpTo, List.length_map]
  exact Nat.le_trans (List.length_filter_le _ _) (by rw [List.length_range]; exact Nat.le_refl _)
theorem tidy_len (kd : Int) (l : List S44) (h : l.length ≤ 64) : (tidy (namesK kd l)).length ≤ 64 := by
  have h0 := names_len kd l
  unfold tidy Lib.compact
  have h2 := compact_len ((rawT (namesK kd l)).mergeSort fun x y => decide (x ≤ y)).toArray ((rawT (namesK kd l)).mergeSort fun x y => decide (x ≤ y)).length
  rw [List.length_mergeSort, raw_len] at h2
  rw [show ∀ x : List (List UInt8), (unrawT x).length = x.length from fun x => by unfold unrawT; rw [List.length_map], List.length_mergeSort, raw_len]
  omega
theorem check_two (l : List S44) (k : Nat) (hk : 6000 ≤ k) (hne : l.length ≠ 0) :
    (∃ t, Tr.wf fmB 1 0 t ∧ t.flat = l ∧ l.length ≤ 64 ∧ traits_Check.f k l = some 0) ∨ traits_Check.f k l = some 131 := by
  by_cases h1 : 64 < l.length
  · refine Or.inr ?_
    unfold traits_Check.f
    rw [if_neg hne, if_pos h1]
  · rcases tree_spec k fmB (formed_some k (by omega)) fmB_kids l 20 1 0 0 (Nat.zero_le _) (by omega) (by omega) with ⟨t, j, e, hw, hd, _, hj⟩ | ⟨j, e, hj, hno⟩
    · by_cases h2 : j = l.length
      · rw [h2, List.drop_length, List.append_nil, List.drop_zero] at hd
        refine Or.inl ⟨t, hw, hd.symm, by omega, ?_⟩
        rw [hd]; exact check_flat t hw (by rw [← hd]; omega) k hk
      · refine Or.inr ?_
        unfold traits_Check.f
        rw [if_neg hne, if_neg h1, e]
        show some (if true = true ∧ j = l.length then (0 : Int) else 131) = some 131
        rw [if_neg (fun q => h2 q.2)]
    · refine Or.inr ?_
      unfold traits_Check.f
      rw [if_neg hne, if_neg h1, e]
      show some (if false = true ∧ j = l.length then (0 : Int) else 131) = some 131
      rw [if_neg (fun q => Bool.false_ne_true q.1)]
theorem ex_out {q : Prop} {P : Bool → Prop} (h : q → ∃ x, P x) : ∃ x, q → P x := by
  by_cases hq : q
  · obtain ⟨x, hx⟩ := h hq
    exact ⟨x, fun _ => hx⟩
  · exact ⟨false, fun h' => absurd h' hq⟩
theorem blind_cases (l : List S44) (hlow : ∀ n ∈ l, Low n) (k : Nat) (hk : 6000 ≤ k) (lB lL : List ByteArray) (fa fd fq : Int) (lB2 lL2 : List ByteArray) (fa2 fd2 fq2 : Int) (ha : fa ≤ 9223372036854775807) (hq : fq ≤ 9223372036854775807) (ha2 : fa2 ≤ 9223372036854775807) (hq2 : fq2 ≤ 9223372036854775807) :
    ∃ bs ls e h1 h2, traits_Names.f k l = some (bs, ls, e) ∧ traits_Fit.f k lB lL fa fd fq = some h1 ∧ traits_Fit.f k lB2 lL2 fa2 fd2 fq2 = some h2 ∧
      ((e ≠ 0 ∨ h1 ≠ 0 ∨ h2 ≠ 0) ∨ (e = 0 ∧ h1 = 0 ∧ h2 = 0 ∧ l.length ≤ 64 ∧ ∃ nb nl h3, tollbooklaw13_named.f k lB lB2 bs = some nb ∧ tollbooklaw13_named.f k lL lL2 ls = some nl ∧
        traits_Fit.f k nb nl (pickI (anyK 6 l) fa fa2) (pickI (anyK 6 l) fd fd2) (pickI (anyK 7 l) fq fq2) = some h3 ∧
        (h3 = 0 → ∃ x, traits_Holds.f k l lB lL fa fd fq = some (x, 0) ∧ traits_Holds.f k l nb nl (pickI (anyK 6 l) fa fa2) (pickI (anyK 6 l) fd fd2) (pickI (anyK 7 l) fq fq2) = some (x, 0)))) := by
  obtain ⟨h1, f1⟩ := fitp_some lB lL fa fd fq k (by omega)
  obtain ⟨h2, f2⟩ := fitp_some lB2 lL2 fa2 fd2 fq2 k (by omega)
  by_cases c : ∃ c, traits_Check.f k l = some c ∧ c ≠ 0
  · obtain ⟨c, hc, h0⟩ := c
    refine ⟨[], [], c, h1, h2, ?_, f1, f2, Or.inl (Or.inl h0)⟩
    unfold traits_Names.f
    rw [hc, Option.bind_some, if_neg h0]
  · have hc : traits_Check.f k l = some 0 ∧ l.length ≤ 64 ∧ (l.length = 0 ∨ ∃ t, Tr.wf fmB 1 0 t ∧ t.flat = l) := by
      by_cases hne : l.length = 0
      · refine ⟨?_, by omega, Or.inl hne⟩
        unfold traits_Check.f
        rw [if_pos hne]
      · rcases check_two l k hk hne with ⟨t, hw, hl, h64, hc⟩ | hc
        · exact ⟨hc, h64, Or.inr ⟨t, hw, hl⟩⟩
        · exact absurd ⟨131, hc, by decide⟩ c
    obtain ⟨hc, h64, ht⟩ := hc
    refine ⟨_, _, 0, h1, h2, names_flat l h64 k hk hc, f1, f2, ?_⟩
    by_cases e1 : h1 = 0
    · by_cases e2 : h2 = 0
      · subst e1 e2
        have F1 := fits_of f1 ha hq
        have F2 := fits_of f2 ha2 hq2
        obtain ⟨nb, n1, n2, n3⟩ := named_some lB lB2 (tidy (namesK 4 l)) (by have := F1.b; omega) (by have := F2.b; omega) (by have := tidy_len 4 l h64; omega) k hk
        obtain ⟨nl, m1, m2, m3⟩ := named_some lL lL2 (tidy (namesK 5 l)) (by have := F1.l; omega) (by have := F2.l; omega) (by have := tidy_len 5 l h64; omega) k hk
        obtain ⟨h3, f3⟩ := fitp_some nb nl (pickI (anyK 6 l) fa fa2) (pickI (anyK 6 l) fd fd2) (pickI (anyK 7 l) fq fq2) k (by omega)
        refine Or.inr ⟨rfl, rfl, rfl, h64, nb, nl, h3, n1, m1, f3, fun e3 => ?_⟩
        subst e3
        have hsa : pickI (anyK 6 l) fa fa2 ≤ 9223372036854775807 := by unfold pickI; split <;> omega
        have hsq : pickI (anyK 7 l) fq fq2 ≤ 9223372036854775807 := by unfold pickI; split <;> omega
        have F3 := fits_of f3 hsa hsq
        rcases ht with h0 | ⟨t, hw, rfl⟩
        · refine ⟨true, ?_, ?_⟩
          · unfold traits_Holds.f
            rw [hc, Option.bind_some, if_pos rfl, f1, Option.bind_some, if_pos rfl, if_pos h0]
          · unfold traits_Holds.f
            rw [hc, Option.bind_some, if_pos rfl, f3, Option.bind_some, if_pos rfl, if_pos h0]
        · refine ⟨_, holds_flat t hw h64 hlow k hk F1 f1, ?_⟩
          rw [holds_flat t hw h64 hlow k hk F3 f3]
          refine congrArg (fun b => some (b, (0 : Int))) ?_
          refine ev_congr _ _ t 1 0 hw fun n hn hl => ?_
          unfold TT
          by_cases c4 : n.f0 = 4
          · rw [if_pos c4, if_pos c4, contains_mem _ _ (by omega) k hk, contains_mem _ _ (by have := F1.b; omega) k hk]
            exact congrArg (fun o => Option.getD (some o) false) (decide_eq_decide.2 (n3 _ (names_in 4 t.flat n hn c4)))
          · rw [if_neg c4, if_neg c4]
            by_cases c5 : n.f0 = 5
            · rw [if_pos c5, if_pos c5, contains_mem _ _ (by omega) k hk, contains_mem _ _ (by have := F1.l; omega) k hk]
              exact congrArg (fun o => Option.getD (some o) false) (decide_eq_decide.2 (m3 _ (names_in 5 t.flat n hn c5)))
            · rw [if_neg c5, if_neg c5]
              by_cases c6 : n.f0 = 6
              · rw [if_pos c6, if_pos c6, anyK_mem hn c6]; rfl
              · rw [if_neg c6, if_neg c6, anyK_mem hn (show n.f0 = 7 by omega)]; rfl
      · exact Or.inl (Or.inr (Or.inr e2))
    · exact Or.inl (Or.inr (Or.inl e1))
end Go.Proofs.YtlboolhjfffppaaGreatDoor.CTr
