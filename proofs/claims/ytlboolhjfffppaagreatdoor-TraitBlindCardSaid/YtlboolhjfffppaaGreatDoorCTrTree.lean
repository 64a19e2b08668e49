/- Conditions as trees: the printed check is whether the nodes are one tree's. -/
import Derived.Test.YtlboolhjfffppaaGreatDoorCTrClass
import Derived.Test.YtlboolhjfffppaaGreatDoorPBLIx5
import Derived.Test.YtlboolhjfffppaaGreatDoorPBLIx4
namespace Go.Proofs.YtlboolhjfffppaaGreatDoor.CTr
open Go Go.RowKit Go.Proofs.YtlboolhjfffppaaGreatDoor.PBLI Go.Proofs.YtlboolhjfffppaaGreatDoorW.PrintWords Go.Proofs.YtlboolhjfffppaaGreatDoorW.PrintLast
inductive Tr where
  | mk (n : S44) (kids : List Tr)
mutual
def Tr.flat : Tr → List S44
  | .mk n ks => n :: flats ks
def flats : List Tr → List S44
  | [] => []
  | t :: ts => t.flat ++ flats ts
end
mutual
def Tr.wf (F : S44 → Bool) : Int → Int → Tr → Prop
  | deep, under, .mk n ks => deep ≤ 16 ∧ F n = true ∧ ¬ (n.f0 = under ∧ under ≠ 3) ∧ (ks.length : Int) = n.f1 ∧ wfs F (deep + 1) n.f0 ks
def wfs (F : S44 → Bool) : Int → Int → List Tr → Prop
  | _, _, [] => True
  | deep, under, t :: ts => t.wf F deep under ∧ wfs F deep under ts
end
mutual
theorem flat_uniq (F : S44 → Bool) : ∀ (t1 : Tr) (a1 b1 a2 b2 : Int) (t2 : Tr) (r1 r2 : List S44), t1.wf F a1 b1 → t2.wf F a2 b2 → t1.flat ++ r1 = t2.flat ++ r2 → t1 = t2 ∧ r1 = r2
  | .mk n1 ks1, a1, b1, a2, b2, .mk n2 ks2, r1, r2, h1, h2, h => by
    rw [Tr.wf] at h1 h2
    rw [Tr.flat, Tr.flat, List.cons_append, List.cons_append] at h
    obtain ⟨hn, hr⟩ := List.cons.inj h
    subst hn
    obtain ⟨e1, e2⟩ := flats_uniq F ks1 _ _ _ _ ks2 r1 r2 (by have := h1.2.2.2.1; have := h2.2.2.2.1; omega) h1.2.2.2.2 h2.2.2.2.2 hr
    exact ⟨by rw [e1], e2⟩
theorem flats_uniq (F : S44 → Bool) : ∀ (ts1 : List Tr) (a1 b1 a2 b2 : Int) (ts2 : List Tr) (r1 r2 : List S44), ts1.length = ts2.length → wfs F a1 b1 ts1 → wfs F a2 b2 ts2 → flats ts1 ++ r1 = flats ts2 ++ r2 → ts1 = ts2 ∧ r1 = r2
  | [], _, _, _, _, [], _, _, _, _, _, h => by
    rw [flats, List.nil_append, List.nil_append] at h; exact ⟨rfl, h⟩
  | [], _, _, _, _, _ :: _, _, _, hl, _, _, _ => by cases hl
  | _ :: _, _, _, _, _, [], _, _, hl, _, _, _ => by cases hl
  | t1 :: ts1, a1, b1, a2, b2, t2 :: ts2, r1, r2, hl, h1, h2, h => by
    rw [wfs] at h1 h2
    rw [flats, flats, List.append_assoc, List.append_assoc] at h
    obtain ⟨e1, e2⟩ := flat_uniq F t1 _ _ _ _ t2 _ _ h1.1 h2.1 h
    obtain ⟨e3, e4⟩ := flats_uniq F ts1 _ _ _ _ ts2 r1 r2 (by simpa using hl) h1.2 h2.2 e2
    exact ⟨by rw [e1, e3], e4⟩
end
def Parsed (F : S44 → Bool) (l : List S44) (deep under : Int) (i : Nat) (x : Option (Bool × Nat)) : Prop :=
  (∃ t j, x = some (true, j) ∧ Tr.wf F deep under t ∧ l.drop i = t.flat ++ l.drop j ∧ i < j ∧ j ≤ l.length) ∨ (∃ j, x = some (false, j) ∧ j ≤ l.length ∧ ¬ ∃ t r, Tr.wf F deep under t ∧ l.drop i = t.flat ++ r)
theorem kids_spec (F : S44 → Bool) (l : List S44) (deep under : Int) (T : Nat → Option (Bool × Nat)) (hT : ∀ i, i ≤ l.length → Parsed F l deep under i (T i)) : ∀ (m i : Nat), i ≤ l.length →
    (∃ ts j, kidsF T m i = some (true, j) ∧ ts.length = m ∧ wfs F deep under ts ∧ l.drop i = flats ts ++ l.drop j ∧ i ≤ j ∧ j ≤ l.length) ∨ (∃ j, kidsF T m i = some (false, j) ∧ j ≤ l.length ∧ ¬ ∃ ts r, ts.length = m ∧ wfs F deep under ts ∧ l.drop i = flats ts ++ r)
  | 0, i, hi => Or.inl ⟨[], i, rfl, rfl, by rw [wfs]; trivial, by rw [flats]; rfl, Nat.le_refl _, hi⟩
  | m + 1, i, hi => by
    rw [kidsF]
    rcases hT i hi with ⟨t, j, e, hw, hd, hij, hj⟩ | ⟨j, e, hj, hno⟩
    · rw [e, Option.bind_some, if_pos rfl]
      rcases kids_spec F l deep under T hT m j hj with ⟨ts, j2, e2, hl2, hw2, hd2, hij2, hj2⟩ | ⟨j2, e2, hj2, hno2⟩
      · refine Or.inl ⟨t :: ts, j2, e2, by rw [List.length_cons, hl2], by rw [wfs]; exact ⟨hw, hw2⟩, ?_, by omega, hj2⟩
        rw [flats, List.append_assoc, ← hd2, hd]
      · refine Or.inr ⟨j2, e2, hj2, ?_⟩
        rintro ⟨ts, r, h1, h2, h3⟩
        cases ts with
        | nil => cases h1
        | cons t2 ts =>
          rw [wfs] at h2
          rw [flats, List.append_assoc, hd] at h3
          obtain ⟨_, e4⟩ := flat_uniq F t _ _ _ _ t2 _ _ hw h2.1 h3
          exact hno2 ⟨ts, r, by simpa using h1, h2.2, e4⟩
    · rw [e, Option.bind_some, if_neg Bool.false_ne_true]
      refine Or.inr ⟨j, rfl, hj, ?_⟩
      rintro ⟨ts, r, h1, h2, h3⟩
      cases ts with
      | nil => cases h1
      | cons t2 ts =>
        rw [wfs] at h2
        rw [flats, List.append_assoc] at h3
        exact hno ⟨t2, _, h2.1, h3⟩
theorem rd_dropT (l : List S44) (i : Nat) (h : i < l.length) : l.drop i = rd_T44 l (i : Int) :: l.drop (i + 1) := by
  rw [List.drop_eq_getElem_cons h]
  unfold rd_T44
  rw [Int.toNat_natCast, List.getD_eq_getElem?_getD, List.getElem?_eq_getElem h]; rfl
theorem tree_spec (K : Nat) (F : S44 → Bool) (hF : ∀ m : S44, traits_formed.f K m.f0 m.f1 m.f2 m.f3 m.f4.f0 m.f4.f1 = some (F m)) (hF1 : ∀ m, F m = true → 0 ≤ m.f1) (l : List S44) : ∀ (d : Nat) (deep under : Int) (i : Nat), i ≤ l.length → 18 ≤ (d : Int) + deep → deep ≤ 17 → Parsed F l deep under i (treeF K l d deep under i)
  | 0, deep, under, i, hi, hd, hd2 => by omega
  | d + 1, deep, under, i, hi, hd, hd2 => by
    rw [treeF]
    by_cases c1 : i = l.length
    · rw [if_pos c1]
      refine Or.inr ⟨i, rfl, hi, ?_⟩
      rintro ⟨⟨n, ks⟩, r, _, h⟩
      rw [c1, List.drop_length, Tr.flat] at h
      cases h
    · rw [if_neg c1]
      have hlt : i < l.length := by omega
      by_cases c2 : 16 < deep
      · rw [if_pos c2]
        refine Or.inr ⟨i, rfl, hi, ?_⟩
        rintro ⟨⟨n, ks⟩, r, hw, _⟩
        rw [Tr.wf] at hw
        omega
      · rw [if_neg c2, hF, Option.bind_some]
        have hdr := rd_dropT l i hlt
        obtain ⟨m, hm⟩ : ∃ m, rd_T44 l (i : Int) = m := ⟨_, rfl⟩
        rw [hm] at hdr ⊢
        by_cases c3 : F m = true
        · rw [if_pos c3]
          by_cases c4 : m.f0 = under ∧ under ≠ 3
          · rw [if_pos c4]
            refine Or.inr ⟨i + 1, rfl, hlt, ?_⟩
            rintro ⟨⟨n, ks⟩, r, hw, h⟩
            rw [hdr, Tr.flat, List.cons_append] at h
            obtain ⟨rfl, _⟩ := List.cons.inj h
            rw [Tr.wf] at hw
            exact hw.2.2.1 c4
          · rw [if_neg c4]
            have h0 := hF1 m c3
            rcases kids_spec F l (deep + 1) m.f0 _ (fun i hi => tree_spec K F hF hF1 l d (deep + 1) m.f0 i hi (by omega) (by omega)) m.f1.toNat (i + 1) hlt with ⟨ts, j, e, hl2, hw, hdd, hij, hj⟩ | ⟨j, e, hj, hno⟩
            · refine Or.inl ⟨.mk m ts, j, e, ?_, ?_, by omega, hj⟩
              · rw [Tr.wf]; exact ⟨by omega, c3, c4, by omega, hw⟩
              · rw [Tr.flat, List.cons_append, ← hdd, hdr]
            · refine Or.inr ⟨j, e, hj, ?_⟩
              rintro ⟨⟨n, ks⟩, r, hw, h⟩
              rw [hdr, Tr.flat, List.cons_append] at h
              obtain ⟨rfl, h'⟩ := List.cons.inj h
              rw [Tr.wf] at hw
              exact hno ⟨ks, r, by have := hw.2.2.2.1; omega, hw.2.2.2.2, h'⟩
        · rw [if_neg c3]
          refine Or.inr ⟨i + 1, rfl, hlt, ?_⟩
          rintro ⟨⟨n, ks⟩, r, hw, h⟩
          rw [hdr, Tr.flat, List.cons_append] at h
          obtain ⟨rfl, _⟩ := List.cons.inj h
          rw [Tr.wf] at hw
          exact c3 hw.2.1
def bareB (m : S44) : Bool := decide (m.f2.size = 0) && (decide (m.f3 = 0) && (decide (m.f4.f0 = 0) && decide (m.f4.f1 = 0)))
def decB (u p : Int) : Bool := decide (0 ≤ p) && (decide (p ≤ 9) && (decide (p = 0) || !decide (Int.tmod u 10 = 0)))
def fmB (m : S44) : Bool :=
  if m.f0 = 1 ∨ m.f0 = 2 then bareB m && decide (2 ≤ m.f1)
  else if m.f0 = 3 then bareB m && decide (m.f1 = 1)
  else if m.f0 = 4 ∨ m.f0 = 5 then decide (m.f1 = 0) && (decide (m.f3 = 0) && (decide (m.f4.f0 = 0) && (decide (m.f4.f1 = 0) && nameOk (L m.f2))))
  else if m.f0 = 6 ∨ m.f0 = 7 then decide (m.f1 = 0) && (decide (m.f2.size = 0) && (decide (1 ≤ m.f3) && (decide (m.f3 ≤ 4) && (decide (0 ≤ m.f4.f0) && decB m.f4.f0 m.f4.f1))))
  else false
theorem nil_iff' (s : ByteArray) : (s.toList = ([] : List UInt8)) ↔ s.size = 0 := by
  rw [Lib.toList_data, ← L_len, List.length_eq_zero_iff]
theorem dec_some (u p : Int) : decimal_Check.f u p = some (if decB u p = true then 0 else 60) := by
  unfold decimal_Check.f decB
  by_cases h1 : p < 0
  · rw [if_pos h1, decide_eq_false (by omega), Bool.false_and, if_neg Bool.false_ne_true]
  · rw [if_neg h1, decide_eq_true (by omega), Bool.true_and]
    by_cases h2 : p > 9
    · rw [if_pos h2, decide_eq_false (by omega), Bool.false_and, if_neg Bool.false_ne_true]
    · rw [if_neg h2, decide_eq_true (by omega), Bool.true_and]
      by_cases h3 : p > 0
      · rw [if_pos h3, decide_eq_false (by omega), Bool.false_or]
        by_cases h4 : Int.tmod u 10 = 0
        · rw [if_pos h4, decide_eq_true h4]; rfl
        · rw [if_neg h4, decide_eq_false h4]; rfl
      · rw [if_neg h3, decide_eq_true (by omega), Bool.true_or, if_pos rfl]
theorem dec_zero (u p : Int) : ((if decB u p = true then (0 : Int) else 60) == 0) = decB u p := by
  cases decB u p <;> rfl
theorem formed_some (K : Nat) (hK : 3 ≤ K) (m : S44) : traits_formed.f K m.f0 m.f1 m.f2 m.f3 m.f4.f0 m.f4.f1 = some (fmB m) := by
  obtain ⟨k, rfl⟩ : ∃ j, K = j + 3 := ⟨K - 3, by omega⟩
  obtain ⟨a, b, c, d, ⟨e, f⟩⟩ := m
  have hbare : (if c.toList = ([] : List UInt8) then (if d = 0 then (traits_formed.j0 (k + 3) (e == 0 && (f == 0)) a b c d e f) else (traits_formed.j0 (k + 3) false a b c d e f)) else (traits_formed.j0 (k + 3) false a b c d e f)) = traits_formed.j0 (k + 3) (bareB ⟨a, b, c, d, ⟨e, f⟩⟩) a b c d e f := by
    unfold bareB
    by_cases h1 : c.size = 0
    · rw [if_pos ((nil_iff' c).2 h1), decide_eq_true h1, Bool.true_and]
      by_cases h2 : d = 0
      · rw [if_pos h2, decide_eq_true h2, Bool.true_and]; rfl
      · rw [if_neg h2, decide_eq_false h2, Bool.false_and]
    · rw [if_neg (fun q => h1 ((nil_iff' c).1 q)), decide_eq_false h1, Bool.false_and]
  unfold traits_formed.f
  simp only []
  rw [hbare]
  generalize hb : bareB ⟨a, b, c, d, ⟨e, f⟩⟩ = B
  unfold fmB
  simp only [hb]
  have hj1 : ∀ x, x = decide (a = 1 ∨ a = 2) → traits_formed.j1 (k + 2) B a x a b c d e f = some (if a = 1 ∨ a = 2 then B && decide (2 ≤ b) else if a = 3 then B && decide (b = 1) else if a = 4 ∨ a = 5 then decide (b = 0) && (decide (d = 0) && (decide (e = 0) && (decide (f = 0) && nameOk (L c)))) else if a = 6 ∨ a = 7 then decide (b = 0) && (decide (c.size = 0) && (decide (1 ≤ d) && (decide (d ≤ 4) && (decide (0 ≤ e) && decB e f)))) else false) := by
    intro x hx
    rw [traits_formed.j1, hx]
    have hj2 : ∀ y, y = decide (a = 4 ∨ a = 5) → ¬ (a = 1 ∨ a = 2) → ¬ a = 3 → traits_formed.j2 (k + 1) a y a b c d e f = some (if a = 4 ∨ a = 5 then decide (b = 0) && (decide (d = 0) && (decide (e = 0) && (decide (f = 0) && nameOk (L c)))) else if a = 6 ∨ a = 7 then decide (b = 0) && (decide (c.size = 0) && (decide (1 ≤ d) && (decide (d ≤ 4) && (decide (0 ≤ e) && decB e f)))) else false) := by
      intro y hy _ _
      rw [traits_formed.j2, hy]
      have h67 : ∀ z : Option Bool, (if b = 0 then (if c.toList = ([] : List UInt8) then (if d ≥ 1 then (if d ≤ 4 then (if e ≥ 0 then ((decimal_Check.f e f).bind fun t => (some (t == 0))) else (some false)) else (some false)) else (some false)) else (some false)) else (some false)) = some (decide (b = 0) && (decide (c.size = 0) && (decide (1 ≤ d) && (decide (d ≤ 4) && (decide (0 ≤ e) && decB e f))))) := by
        intro _
        by_cases h1 : b = 0
        · rw [if_pos h1, decide_eq_true h1, Bool.true_and]
          by_cases h2 : c.size = 0
          · rw [if_pos ((nil_iff' c).2 h2), decide_eq_true h2, Bool.true_and]
            by_cases h3 : d ≥ 1
            · rw [if_pos h3, decide_eq_true h3, Bool.true_and]
              by_cases h4 : d ≤ 4
              · rw [if_pos h4, decide_eq_true h4, Bool.true_and]
                by_cases h5 : e ≥ 0
                · rw [if_pos h5, decide_eq_true h5, Bool.true_and, dec_some, Option.bind_some, dec_zero]
                · rw [if_neg h5, decide_eq_false h5, Bool.false_and]
              · rw [if_neg h4, decide_eq_false h4, Bool.false_and]
            · rw [if_neg h3, decide_eq_false h3, Bool.false_and]
          · rw [if_neg (fun q => h2 ((nil_iff' c).1 q)), decide_eq_false h2, Bool.false_and]
        · rw [if_neg h1, decide_eq_false h1, Bool.false_and]
      by_cases h45 : a = 4 ∨ a = 5
      · rw [decide_eq_true h45, if_pos rfl, if_pos h45]
        by_cases h1 : b = 0
        · rw [if_pos h1, decide_eq_true h1, Bool.true_and]
          by_cases h2 : d = 0
          · rw [if_pos h2, decide_eq_true h2, Bool.true_and]
            by_cases h3 : e = 0
            · by_cases h4 : f = 0
              · rw [if_pos (by rw [h3, h4]; rfl), decide_eq_true h3, decide_eq_true h4, Bool.true_and, Bool.true_and, word_val, Option.bind_some]
              · rw [if_neg (by simp [h4]), decide_eq_false h4, Bool.false_and, Bool.and_false]
            · rw [if_neg (by simp [h3]), decide_eq_false h3, Bool.false_and]
          · rw [if_neg h2, decide_eq_false h2, Bool.false_and]
        · rw [if_neg h1, decide_eq_false h1, Bool.false_and]
      · rw [decide_eq_false h45, if_neg Bool.false_ne_true, if_neg h45]
        by_cases h6 : a = 6
        · rw [if_pos h6, if_pos (Or.inl h6)]; exact h67 none
        · rw [if_neg h6]
          by_cases h7 : a = 7
          · rw [if_pos h7, if_pos (Or.inr h7)]; exact h67 none
          · rw [if_neg h7, if_neg (by omega)]
    by_cases h12 : a = 1 ∨ a = 2
    · rw [decide_eq_true h12, if_pos rfl, if_pos h12]
      cases B with
      | true => rw [if_pos rfl, Bool.true_and]
      | false => rw [if_neg Bool.false_ne_true, Bool.false_and]
    · rw [decide_eq_false h12, if_neg Bool.false_ne_true, if_neg h12]
      by_cases h3 : a = 3
      · rw [if_pos h3, if_pos h3]
        cases B with
        | true => rw [if_pos rfl, Bool.true_and]; rfl
        | false => rw [if_neg Bool.false_ne_true, Bool.false_and]
      · rw [if_neg h3, if_neg h3]
        by_cases h4 : a = 4
        · rw [if_pos h4, hj2 _ (by rw [h4]; rfl) h12 h3]
        · rw [if_neg h4, hj2 _ (by rw [show (a == 5) = decide (a = 5) from rfl]; exact decide_eq_decide.2 ⟨Or.inr, fun q => q.resolve_left h4⟩) h12 h3]
  rw [traits_formed.j0]
  by_cases h1 : a = 1
  · rw [if_pos h1, hj1 _ (by rw [h1]; rfl)]
  · rw [if_neg h1, hj1 _ (by rw [show (a == 2) = decide (a = 2) from rfl]; exact decide_eq_decide.2 ⟨Or.inr, fun q => q.resolve_left h1⟩)]
theorem fmB_kids (m : S44) (h : fmB m = true) : 0 ≤ m.f1 := by
  unfold fmB at h
  split at h
  · simp only [Bool.and_eq_true, decide_eq_true_iff] at h; omega
  · split at h
    · simp only [Bool.and_eq_true, decide_eq_true_iff] at h; omega
    · split at h
      · simp only [Bool.and_eq_true, decide_eq_true_iff] at h; omega
      · split at h
        · simp only [Bool.and_eq_true, decide_eq_true_iff] at h; omega
        · cases h
end Go.Proofs.YtlboolhjfffppaaGreatDoor.CTr
