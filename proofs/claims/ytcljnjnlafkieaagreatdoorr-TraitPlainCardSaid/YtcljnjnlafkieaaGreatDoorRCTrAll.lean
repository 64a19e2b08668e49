/- Words, parts and classes: the printed functions come to plain ones over lists of bytes. -/
import Derived.Test.YtcljnjnlafkieaaGreatDoorRPPLAx18
import Derived.Test.YtcljnjnlafkieaaGreatDoorRPPLAx3
import Derived.Test.YtcljnjnlafkieaaGreatDoorRPPLAx17
import Derived.Lib.SplitLaws
import Derived.Lib.Strings
import Derived.Test.YtcljnjnlafkieaaGreatDoorRPPLAx5
import Derived.Test.YtcljnjnlafkieaaGreatDoorRPPLAx4
import Derived.Test.YtcljnjnlafkieaaGreatDoorRPPLAx21
import Derived.Test.YtcljnjnlafkieaaGreatDoorRPPLAx22
import Derived.Test.YtcljnjnlafkieaaGreatDoorRPPLAx20
import Derived.Test.YtcljnjnlafkieaaGreatDoorRPPLAx19
import Derived.Test.YtcljnjnlafkieaaGreatDoorRPh
import Derived.Test.YtcljnjnlafkieaaGreatDoorRPPLAx0
import Derived.Test.YtcljnjnlafkieaaGreatDoorRPPLAx2
import Derived.Test.YtcljnjnlafkieaaGreatDoorRPPLAx25
import Derived.Test.YtcljnjnlafkieaaGreatDoorRPPLAx8
import Derived.Test.YtcljnjnlafkieaaGreatDoorRPPLAx6
import Derived.Test.YtcljnjnlafkieaaGreatDoorRPPLAx23
import Derived.Test.YtcljnjnlafkieaaGreatDoorRPPLAx26
import Derived.Test.YtcljnjnlafkieaaGreatDoorRPPLAx7
import Derived.Lib.SlicesCompact
import Derived.Sort.Walk0
import Derived.Test.YtcljnjnlafkieaaGreatDoorRPPLAx16
namespace Go.Proofs.YtcljnjnlafkieaaGreatDoorR.CTr
open Go Go.RowKit Go.Proofs.YtcljnjnlafkieaaGreatDoorR.PPLA Go.Proofs.YtcljnjnlafkieaaGreatDoorRW.PrintWords Go.Proofs.YtcljnjnlafkieaaGreatDoorRW.PrintLast
def lo (c : UInt8) : Bool := decide (97 ≤ c.toNat) && decide (c.toNat ≤ 122)
def dg (c : UInt8) : Bool := decide (48 ≤ c.toNat) && decide (c.toNat ≤ 57)
def wi (c : UInt8) : Bool := lo c || dg c || decide (c.toNat = 95)
def run (p : UInt8 → Bool) (l : List UInt8) : Nat := (l.takeWhile p).length
def part (l : List UInt8) : Nat := if run lo l = 0 then 0 else run wi l
theorem run_le (p : UInt8 → Bool) (l : List UInt8) : run p l ≤ l.length := by
  unfold run; exact (List.takeWhile_sublist p).length_le
theorem run_nil (p : UInt8 → Bool) : run p [] = 0 := rfl
theorem run_cons (p : UInt8 → Bool) (c : UInt8) (r : List UInt8) : run p (c :: r) = if p c = true then run p r + 1 else 0 := by
  unfold run; rw [List.takeWhile_cons]; split <;> simp
abbrev L (s : ByteArray) : List UInt8 := s.data.toList
theorem L_len (s : ByteArray) : (L s).length = s.size := by simp
theorem size_from (s : ByteArray) (a : Nat) : (s.extract a s.size).size = s.size - a := by simp
def Sm (s : ByteArray) : Prop := s.size ≤ 281474976710656
theorem wrap_id {x : Int} (h0 : -9223372036854775808 ≤ x) (h1 : x ≤ 9223372036854775807) : wrap64 x = x := by unfold wrap64; omega
theorem cutN_run (s set : ByteArray) : cutN s set = run (inSet set) (L s) := rfl
theorem set_eq (set : ByteArray) (p : UInt8 → Bool) (h : ((List.range 256).all fun n => inSet set (UInt8.ofNat n) == p (UInt8.ofNat n)) = true) : inSet set = p := by
  funext c
  have := List.all_eq_true.1 h c.toNat (List.mem_range.2 c.toNat_lt)
  simpa using this
theorem run_some (s set : ByteArray) (p : UInt8 → Bool) (hs : Sm s) (hp : inSet set = p) (ha : set.data.toList.all (fun c => decide (c.toNat < 128)) = true) :
    tokens_run.f s set = some ((run p (L s) : Nat) : Int) := by
  unfold tokens_run.f tokens_cutLeft.f
  rw [if_pos ha]
  simp only [Option.bind_some]
  rw [size_from, cutN_run, hp]
  have := run_le p (L s)
  rw [L_len] at this
  unfold Sm at hs
  rw [wrap_id (by omega) (by omega)]
  congr 1; omega
theorem set_lo : inSet (⟨#[97, 98, 99, 100, 101, 102, 103, 104, 105, 106, 107, 108, 109, 110, 111, 112, 113, 114, 115, 116, 117, 118, 119, 120, 121, 122]⟩ : ByteArray) = lo := set_eq _ _ (by decide +kernel)
theorem set_wi : inSet (⟨#[97, 98, 99, 100, 101, 102, 103, 104, 105, 106, 107, 108, 109, 110, 111, 112, 113, 114, 115, 116, 117, 118, 119, 120, 121, 122, 48, 49, 50, 51, 52, 53, 54, 55, 56, 57, 95]⟩ : ByteArray) = wi := set_eq _ _ (by decide +kernel)
theorem run_lo (s : ByteArray) (hs : Sm s) : tokens_run.f s (⟨#[97, 98, 99, 100, 101, 102, 103, 104, 105, 106, 107, 108, 109, 110, 111, 112, 113, 114, 115, 116, 117, 118, 119, 120, 121, 122]⟩ : ByteArray) = some ((run lo (L s) : Nat) : Int) := run_some _ _ _ hs set_lo (by decide +kernel)
theorem run_wi (s : ByteArray) (hs : Sm s) : tokens_run.f s (⟨#[97, 98, 99, 100, 101, 102, 103, 104, 105, 106, 107, 108, 109, 110, 111, 112, 113, 114, 115, 116, 117, 118, 119, 120, 121, 122, 48, 49, 50, 51, 52, 53, 54, 55, 56, 57, 95]⟩ : ByteArray) = some ((run wi (L s) : Nat) : Int) := run_some _ _ _ hs set_wi (by decide +kernel)
theorem part_some (s : ByteArray) (hs : Sm s) : tokens_part.f s = some ((part (L s) : Nat) : Int) := by
  unfold tokens_part.f
  rw [run_lo s hs, Option.bind_some]
  by_cases h : run lo (L s) = 0
  · rw [if_pos (by omega)]; simp [part, h]
  · rw [if_neg (by omega), run_wi s hs, Option.bind_some]; simp [part, h]
theorem wrap_add1 (a : Nat) (h : a ≤ 1125899906842624) : wrap64 ((a : Int) + 1) = ((a + 1 : Nat) : Int) := by unfold wrap64; omega
def nameOk (l : List UInt8) : Bool := decide (0 < l.length) && (decide (l.length ≤ 24) && (decide (part l = l.length) && !amongW 29 l))
theorem word_val (s : ByteArray) : tokens_Word.f s = some (nameOk (L s)) := by
  have hl := L_len s
  unfold tokens_Word.f nameOk
  by_cases h0 : s.size = 0
  · rw [if_pos h0]; simp [h0]
  · rw [if_neg h0]
    by_cases h1 : 24 < s.size
    · rw [if_pos h1]; simp; omega
    · have hd : 0 < (L s).length := by omega
      have hd2 : (L s).length ≤ 24 := by omega
      rw [if_neg h1, part_some s (by unfold Sm; omega), Option.bind_some, decide_eq_true hd, decide_eq_true hd2]
      by_cases h2 : part (L s) = (L s).length
      · rw [if_pos (by omega), decide_eq_true h2]; rfl
      · rw [if_neg (by omega), decide_eq_false h2]; rfl
def bs (l : List UInt8) : ByteArray := ⟨l.toArray⟩
theorem rd_drop (xs : List ByteArray) (i : Nat) (h : i < xs.length) : xs.drop i = rdOf ByteArray.empty xs (i : Int) :: xs.drop (i + 1) := by
  rw [List.drop_eq_getElem_cons h]
  unfold rdOf
  rw [Int.toNat_natCast, List.getD_eq_getElem?_getD, List.getElem?_eq_getElem h]; rfl
end Go.Proofs.YtcljnjnlafkieaaGreatDoorR.CTr
/- Conditions as trees: the printed check is whether the nodes are one tree's. -/
namespace Go.Proofs.YtcljnjnlafkieaaGreatDoorR.CTr
open Go Go.RowKit Go.Proofs.YtcljnjnlafkieaaGreatDoorR.PPLA Go.Proofs.YtcljnjnlafkieaaGreatDoorRW.PrintWords Go.Proofs.YtcljnjnlafkieaaGreatDoorRW.PrintLast
inductive Tr where
  | mk (n : S45) (kids : List Tr)
mutual
def Tr.flat : Tr → List S45
  | .mk n ks => n :: flats ks
def flats : List Tr → List S45
  | [] => []
  | t :: ts => t.flat ++ flats ts
end
mutual
def Tr.wf (F : S45 → Bool) : Int → Int → Tr → Prop
  | deep, under, .mk n ks => deep ≤ 16 ∧ F n = true ∧ ¬ (n.f0 = under ∧ under ≠ 3) ∧ (ks.length : Int) = n.f1 ∧ wfs F (deep + 1) n.f0 ks
def wfs (F : S45 → Bool) : Int → Int → List Tr → Prop
  | _, _, [] => True
  | deep, under, t :: ts => t.wf F deep under ∧ wfs F deep under ts
end
theorem flats_append : ∀ (xs ys : List Tr), flats (xs ++ ys) = flats xs ++ flats ys
  | [], _ => by rw [List.nil_append, flats, List.nil_append]
  | x :: xs, ys => by rw [List.cons_append, flats, flats, flats_append xs ys, List.append_assoc]
mutual
theorem flat_uniq (F : S45 → Bool) : ∀ (t1 : Tr) (a1 b1 a2 b2 : Int) (t2 : Tr) (r1 r2 : List S45), t1.wf F a1 b1 → t2.wf F a2 b2 → t1.flat ++ r1 = t2.flat ++ r2 → t1 = t2 ∧ r1 = r2
  | .mk n1 ks1, a1, b1, a2, b2, .mk n2 ks2, r1, r2, h1, h2, h => by
    rw [Tr.wf] at h1 h2
    rw [Tr.flat, Tr.flat, List.cons_append, List.cons_append] at h
    obtain ⟨hn, hr⟩ := List.cons.inj h
    subst hn
    obtain ⟨e1, e2⟩ := flats_uniq F ks1 _ _ _ _ ks2 r1 r2 (by have := h1.2.2.2.1; have := h2.2.2.2.1; omega) h1.2.2.2.2 h2.2.2.2.2 hr
    exact ⟨by rw [e1], e2⟩
theorem flats_uniq (F : S45 → Bool) : ∀ (ts1 : List Tr) (a1 b1 a2 b2 : Int) (ts2 : List Tr) (r1 r2 : List S45), ts1.length = ts2.length → wfs F a1 b1 ts1 → wfs F a2 b2 ts2 → flats ts1 ++ r1 = flats ts2 ++ r2 → ts1 = ts2 ∧ r1 = r2
  | [], _, _, _, _, [], _, _, _, _, _, h => by
    rw [flats, List.nil_append, List.nil_append] at h; exact ⟨rfl, h⟩
  | [], _, _, _, _, _ :: _, _, _, hl, _, _, _ => by cases hl
  | _ :: _, _, _, _, _, [], _, _, hl, _, _, _ => by cases hl
  | t1 :: ts1, a1, b1, a2, b2, t2 :: ts2, r1, r2, hl, h1, h2, h => by
    rw [wfs] at h1 h2
    rw [flats, flats, List.append_assoc, List.append_assoc] at h
    obtain ⟨e1, e2⟩ := flat_uniq F t1 _ _ _ _ t2 _ _ h1.1 h2.1 h
    obtain ⟨e3, e4⟩ := flats_uniq F ts1 _ _ _ _ ts2 r1 r2 (by simpa using hl) h1.2 h2.2 e2
    exact ⟨by rw [e1, e3], e4⟩
end
def Parsed (F : S45 → Bool) (l : List S45) (deep under : Int) (i : Nat) (x : Option (Bool × Nat)) : Prop :=
  (∃ t j, x = some (true, j) ∧ Tr.wf F deep under t ∧ l.drop i = t.flat ++ l.drop j ∧ i < j ∧ j ≤ l.length) ∨ (∃ j, x = some (false, j) ∧ j ≤ l.length ∧ ¬ ∃ t r, Tr.wf F deep under t ∧ l.drop i = t.flat ++ r)
theorem kids_spec (F : S45 → Bool) (l : List S45) (deep under : Int) (T : Nat → Option (Bool × Nat)) (hT : ∀ i, i ≤ l.length → Parsed F l deep under i (T i)) : ∀ (m i : Nat), i ≤ l.length →
    (∃ ts j, kidsF T m i = some (true, j) ∧ ts.length = m ∧ wfs F deep under ts ∧ l.drop i = flats ts ++ l.drop j ∧ i ≤ j ∧ j ≤ l.length) ∨ (∃ j, kidsF T m i = some (false, j) ∧ j ≤ l.length ∧ ¬ ∃ ts r, ts.length = m ∧ wfs F deep under ts ∧ l.drop i = flats ts ++ r)
  | 0, i, hi => Or.inl ⟨[], i, rfl, rfl, by rw [wfs]; trivial, by rw [flats]; rfl, Nat.le_refl _, hi⟩
  | m + 1, i, hi => by
    rw [kidsF]
    rcases hT i hi with ⟨t, j, e, hw, hd, hij, hj⟩ | ⟨j, e, hj, hno⟩
    · rw [e, Option.bind_some, if_pos rfl]
      rcases kids_spec F l deep under T hT m j hj with ⟨ts, j2, e2, hl2, hw2, hd2, hij2, hj2⟩ | ⟨j2, e2, hj2, hno2⟩
      · refine Or.inl ⟨t :: ts, j2, e2, by rw [List.length_cons, hl2], by rw [wfs]; exact ⟨hw, hw2⟩, ?_, by omega, hj2⟩
        rw [flats, List.append_assoc, ← hd2, hd]
      · refine Or.inr ⟨j2, e2, hj2, ?_⟩
        rintro ⟨ts, r, h1, h2, h3⟩
        cases ts with
        | nil => cases h1
        | cons t2 ts =>
          rw [wfs] at h2
          rw [flats, List.append_assoc, hd] at h3
          obtain ⟨_, e4⟩ := flat_uniq F t _ _ _ _ t2 _ _ hw h2.1 h3
          exact hno2 ⟨ts, r, by simpa using h1, h2.2, e4⟩
    · rw [e, Option.bind_some, if_neg Bool.false_ne_true]
      refine Or.inr ⟨j, rfl, hj, ?_⟩
      rintro ⟨ts, r, h1, h2, h3⟩
      cases ts with
      | nil => cases h1
      | cons t2 ts =>
        rw [wfs] at h2
        rw [flats, List.append_assoc] at h3
        exact hno ⟨t2, _, h2.1, h3⟩
theorem rd_dropT (l : List S45) (i : Nat) (h : i < l.length) : l.drop i = rd_T45 l (i : Int) :: l.drop (i + 1) := by
  rw [List.drop_eq_getElem_cons h]
  unfold rd_T45
  rw [Int.toNat_natCast, List.getD_eq_getElem?_getD, List.getElem?_eq_getElem h]; rfl
theorem tree_spec (K : Nat) (F : S45 → Bool) (hF : ∀ m : S45, traits_formed.f K m.f0 m.f1 m.f2 m.f3 m.f4.f0 m.f4.f1 = some (F m)) (hF1 : ∀ m, F m = true → 0 ≤ m.f1) (l : List S45) : ∀ (d : Nat) (deep under : Int) (i : Nat), i ≤ l.length → 18 ≤ (d : Int) + deep → deep ≤ 17 → Parsed F l deep under i (treeF K l d deep under i)
  | 0, deep, under, i, hi, hd, hd2 => by omega
  | d + 1, deep, under, i, hi, hd, hd2 => by
    rw [treeF]
    by_cases c1 : i = l.length
    · rw [if_pos c1]
      refine Or.inr ⟨i, rfl, hi, ?_⟩
      rintro ⟨⟨n, ks⟩, r, _, h⟩
      rw [c1, List.drop_length, Tr.flat] at h
      cases h
    · rw [if_neg c1]
      have hlt : i < l.length := by omega
      by_cases c2 : 16 < deep
      · rw [if_pos c2]
        refine Or.inr ⟨i, rfl, hi, ?_⟩
        rintro ⟨⟨n, ks⟩, r, hw, _⟩
        rw [Tr.wf] at hw
        omega
      · rw [if_neg c2, hF, Option.bind_some]
        have hdr := rd_dropT l i hlt
        obtain ⟨m, hm⟩ : ∃ m, rd_T45 l (i : Int) = m := ⟨_, rfl⟩
        rw [hm] at hdr ⊢
        by_cases c3 : F m = true
        · rw [if_pos c3]
          by_cases c4 : m.f0 = under ∧ under ≠ 3
          · rw [if_pos c4]
            refine Or.inr ⟨i + 1, rfl, hlt, ?_⟩
            rintro ⟨⟨n, ks⟩, r, hw, h⟩
            rw [hdr, Tr.flat, List.cons_append] at h
            obtain ⟨rfl, _⟩ := List.cons.inj h
            rw [Tr.wf] at hw
            exact hw.2.2.1 c4
          · rw [if_neg c4]
            have h0 := hF1 m c3
            rcases kids_spec F l (deep + 1) m.f0 _ (fun i hi => tree_spec K F hF hF1 l d (deep + 1) m.f0 i hi (by omega) (by omega)) m.f1.toNat (i + 1) hlt with ⟨ts, j, e, hl2, hw, hdd, hij, hj⟩ | ⟨j, e, hj, hno⟩
            · refine Or.inl ⟨.mk m ts, j, e, ?_, ?_, by omega, hj⟩
              · rw [Tr.wf]; exact ⟨by omega, c3, c4, by omega, hw⟩
              · rw [Tr.flat, List.cons_append, ← hdd, hdr]
            · refine Or.inr ⟨j, e, hj, ?_⟩
              rintro ⟨⟨n, ks⟩, r, hw, h⟩
              rw [hdr, Tr.flat, List.cons_append] at h
              obtain ⟨rfl, h'⟩ := List.cons.inj h
              rw [Tr.wf] at hw
              exact hno ⟨ks, r, by have := hw.2.2.2.1; omega, hw.2.2.2.2, h'⟩
        · rw [if_neg c3]
          refine Or.inr ⟨i + 1, rfl, hlt, ?_⟩
          rintro ⟨⟨n, ks⟩, r, hw, h⟩
          rw [hdr, Tr.flat, List.cons_append] at h
          obtain ⟨rfl, _⟩ := List.cons.inj h
          rw [Tr.wf] at hw
          exact c3 hw.2.1
def bareB (m : S45) : Bool := decide (m.f2.size = 0) && (decide (m.f3 = 0) && (decide (m.f4.f0 = 0) && decide (m.f4.f1 = 0)))
def decB (u p : Int) : Bool := decide (0 ≤ p) && (decide (p ≤ 9) && (decide (p = 0) || !decide (Int.tmod u 10 = 0)))
def fmB (m : S45) : Bool :=
  if m.f0 = 1 ∨ m.f0 = 2 then bareB m && decide (2 ≤ m.f1)
  else if m.f0 = 3 then bareB m && decide (m.f1 = 1)
  else if m.f0 = 4 ∨ m.f0 = 5 then decide (m.f1 = 0) && (decide (m.f3 = 0) && (decide (m.f4.f0 = 0) && (decide (m.f4.f1 = 0) && nameOk (L m.f2))))
  else if m.f0 = 6 ∨ m.f0 = 7 then decide (m.f1 = 0) && (decide (m.f2.size = 0) && (decide (1 ≤ m.f3) && (decide (m.f3 ≤ 4) && (decide (0 ≤ m.f4.f0) && decB m.f4.f0 m.f4.f1))))
  else false
theorem nil_iff' (s : ByteArray) : (s.toList = ([] : List UInt8)) ↔ s.size = 0 := by
  rw [Lib.toList_data, ← L_len, List.length_eq_zero_iff]
theorem dec_some (u p : Int) : decimal_Check.f u p = some (if decB u p = true then 0 else 60) := by
  unfold decimal_Check.f decB
  by_cases h1 : p < 0
  · rw [if_pos h1, decide_eq_false (by omega), Bool.false_and, if_neg Bool.false_ne_true]
  · rw [if_neg h1, decide_eq_true (by omega), Bool.true_and]
    by_cases h2 : p > 9
    · rw [if_pos h2, decide_eq_false (by omega), Bool.false_and, if_neg Bool.false_ne_true]
    · rw [if_neg h2, decide_eq_true (by omega), Bool.true_and]
      by_cases h3 : p > 0
      · rw [if_pos h3, decide_eq_false (by omega), Bool.false_or]
        by_cases h4 : Int.tmod u 10 = 0
        · rw [if_pos h4, decide_eq_true h4]; rfl
        · rw [if_neg h4, decide_eq_false h4]; rfl
      · rw [if_neg h3, decide_eq_true (by omega), Bool.true_or, if_pos rfl]
theorem dec_zero (u p : Int) : ((if decB u p = true then (0 : Int) else 60) == 0) = decB u p := by
  cases decB u p <;> rfl
theorem formed_some (K : Nat) (hK : 3 ≤ K) (m : S45) : traits_formed.f K m.f0 m.f1 m.f2 m.f3 m.f4.f0 m.f4.f1 = some (fmB m) := by
  obtain ⟨k, rfl⟩ : ∃ j, K = j + 3 := ⟨K - 3, by omega⟩
  obtain ⟨a, b, c, d, ⟨e, f⟩⟩ := m
  have hbare : (if c.toList = ([] : List UInt8) then (if d = 0 then (traits_formed.j0 (k + 3) (e == 0 && (f == 0)) a b c d e f) else (traits_formed.j0 (k + 3) false a b c d e f)) else (traits_formed.j0 (k + 3) false a b c d e f)) = traits_formed.j0 (k + 3) (bareB ⟨a, b, c, d, ⟨e, f⟩⟩) a b c d e f := by
    unfold bareB
    by_cases h1 : c.size = 0
    · rw [if_pos ((nil_iff' c).2 h1), decide_eq_true h1, Bool.true_and]
      by_cases h2 : d = 0
      · rw [if_pos h2, decide_eq_true h2, Bool.true_and]; rfl
      · rw [if_neg h2, decide_eq_false h2, Bool.false_and]
    · rw [if_neg (fun q => h1 ((nil_iff' c).1 q)), decide_eq_false h1, Bool.false_and]
  unfold traits_formed.f
  simp only []
  rw [hbare]
  generalize hb : bareB ⟨a, b, c, d, ⟨e, f⟩⟩ = B
  unfold fmB
  simp only [hb]
  have hj1 : ∀ x, x = decide (a = 1 ∨ a = 2) → traits_formed.j1 (k + 2) B a x a b c d e f = some (if a = 1 ∨ a = 2 then B && decide (2 ≤ b) else if a = 3 then B && decide (b = 1) else if a = 4 ∨ a = 5 then decide (b = 0) && (decide (d = 0) && (decide (e = 0) && (decide (f = 0) && nameOk (L c)))) else if a = 6 ∨ a = 7 then decide (b = 0) && (decide (c.size = 0) && (decide (1 ≤ d) && (decide (d ≤ 4) && (decide (0 ≤ e) && decB e f)))) else false) := by
    intro x hx
    rw [traits_formed.j1, hx]
    have hj2 : ∀ y, y = decide (a = 4 ∨ a = 5) → ¬ (a = 1 ∨ a = 2) → ¬ a = 3 → traits_formed.j2 (k + 1) a y a b c d e f = some (if a = 4 ∨ a = 5 then decide (b = 0) && (decide (d = 0) && (decide (e = 0) && (decide (f = 0) && nameOk (L c)))) else if a = 6 ∨ a = 7 then decide (b = 0) && (decide (c.size = 0) && (decide (1 ≤ d) && (decide (d ≤ 4) && (decide (0 ≤ e) && decB e f)))) else false) := by
      intro y hy _ _
      rw [traits_formed.j2, hy]
      have h67 : ∀ z : Option Bool, (if b = 0 then (if c.toList = ([] : List UInt8) then (if d ≥ 1 then (if d ≤ 4 then (if e ≥ 0 then ((decimal_Check.f e f).bind fun t => (some (t == 0))) else (some false)) else (some false)) else (some false)) else (some false)) else (some false)) = some (decide (b = 0) && (decide (c.size = 0) && (decide (1 ≤ d) && (decide (d ≤ 4) && (decide (0 ≤ e) && decB e f))))) := by
        intro _
        by_cases h1 : b = 0
        · rw [if_pos h1, decide_eq_true h1, Bool.true_and]
          by_cases h2 : c.size = 0
          · rw [if_pos ((nil_iff' c).2 h2), decide_eq_true h2, Bool.true_and]
            by_cases h3 : d ≥ 1
            · rw [if_pos h3, decide_eq_true h3, Bool.true_and]
              by_cases h4 : d ≤ 4
              · rw [if_pos h4, decide_eq_true h4, Bool.true_and]
                by_cases h5 : e ≥ 0
                · rw [if_pos h5, decide_eq_true h5, Bool.true_and, dec_some, Option.bind_some, dec_zero]
                · rw [if_neg h5, decide_eq_false h5, Bool.false_and]
              · rw [if_neg h4, decide_eq_false h4, Bool.false_and]
            · rw [if_neg h3, decide_eq_false h3, Bool.false_and]
          · rw [if_neg (fun q => h2 ((nil_iff' c).1 q)), decide_eq_false h2, Bool.false_and]
        · rw [if_neg h1, decide_eq_false h1, Bool.false_and]
      by_cases h45 : a = 4 ∨ a = 5
      · rw [decide_eq_true h45, if_pos rfl, if_pos h45]
        by_cases h1 : b = 0
        · rw [if_pos h1, decide_eq_true h1, Bool.true_and]
          by_cases h2 : d = 0
          · rw [if_pos h2, decide_eq_true h2, Bool.true_and]
            by_cases h3 : e = 0
            · by_cases h4 : f = 0
              · rw [if_pos (by rw [h3, h4]; rfl), decide_eq_true h3, decide_eq_true h4, Bool.true_and, Bool.true_and, word_val, Option.bind_some]
              · rw [if_neg (by simp [h4]), decide_eq_false h4, Bool.false_and, Bool.and_false]
            · rw [if_neg (by simp [h3]), decide_eq_false h3, Bool.false_and]
          · rw [if_neg h2, decide_eq_false h2, Bool.false_and]
        · rw [if_neg h1, decide_eq_false h1, Bool.false_and]
      · rw [decide_eq_false h45, if_neg Bool.false_ne_true, if_neg h45]
        by_cases h6 : a = 6
        · rw [if_pos h6, if_pos (Or.inl h6)]; exact h67 none
        · rw [if_neg h6]
          by_cases h7 : a = 7
          · rw [if_pos h7, if_pos (Or.inr h7)]; exact h67 none
          · rw [if_neg h7, if_neg (by omega)]
    by_cases h12 : a = 1 ∨ a = 2
    · rw [decide_eq_true h12, if_pos rfl, if_pos h12]
      cases B with
      | true => rw [if_pos rfl, Bool.true_and]
      | false => rw [if_neg Bool.false_ne_true, Bool.false_and]
    · rw [decide_eq_false h12, if_neg Bool.false_ne_true, if_neg h12]
      by_cases h3 : a = 3
      · rw [if_pos h3, if_pos h3]
        cases B with
        | true => rw [if_pos rfl, Bool.true_and]; rfl
        | false => rw [if_neg Bool.false_ne_true, Bool.false_and]
      · rw [if_neg h3, if_neg h3]
        by_cases h4 : a = 4
        · rw [if_pos h4, hj2 _ (by rw [h4]; rfl) h12 h3]
        · rw [if_neg h4, hj2 _ (by rw [show (a == 5) = decide (a = 5) from rfl]; exact decide_eq_decide.2 ⟨Or.inr, fun q => q.resolve_left h4⟩) h12 h3]
  rw [traits_formed.j0]
  by_cases h1 : a = 1
  · rw [if_pos h1, hj1 _ (by rw [h1]; rfl)]
  · rw [if_neg h1, hj1 _ (by rw [show (a == 2) = decide (a = 2) from rfl]; exact decide_eq_decide.2 ⟨Or.inr, fun q => q.resolve_left h1⟩)]
theorem fmB_kids (m : S45) (h : fmB m = true) : 0 ≤ m.f1 := by
  unfold fmB at h
  split at h
  · simp only [Bool.and_eq_true, decide_eq_true_iff] at h; omega
  · split at h
    · simp only [Bool.and_eq_true, decide_eq_true_iff] at h; omega
    · split at h
      · simp only [Bool.and_eq_true, decide_eq_true_iff] at h; omega
      · split at h
        · simp only [Bool.and_eq_true, decide_eq_true_iff] at h; omega
        · cases h
end Go.Proofs.YtcljnjnlafkieaaGreatDoorR.CTr
/- Conditions and facts: the two readings agree: over the printed functions. -/
namespace Go.Proofs.YtcljnjnlafkieaaGreatDoorR.CTr
open Go Go.RowKit Go.Proofs.YtcljnjnlafkieaaGreatDoorR.PPLA Go.Proofs.YtcljnjnlafkieaaGreatDoorRW.PrintWords Go.Proofs.YtcljnjnlafkieaaGreatDoorRW.PrintLast
theorem bt_get (s : ByteArray) (i : Nat) (h : i < s.size) : bt s i = ((L s)[i]'(by rw [L_len]; exact h)).toNat := by
  unfold bt
  rw [dif_pos (by simpa using h)]
  rfl
theorem bt_drop (s : ByteArray) (i : Nat) (c : UInt8) (r : List UInt8) (h : (L s).drop i = c :: r) : bt s i = c.toNat := by
  have hl := L_len s
  have hi : i < s.size := by
    rcases Nat.lt_or_ge i s.size with q | q
    · exact q
    · rw [List.drop_of_length_le (by omega)] at h; cases h
  rw [bt_get s i hi]
  have : (L s)[i]'(by rw [hl]; exact hi) = c := by
    have := List.getElem_drop (xs := L s) (i := i) (j := 0) (h := by rw [h]; simp)
    simp [h] at this
    exact this.symm
  rw [this]
theorem bt_head (s : ByteArray) (c : UInt8) (r : List UInt8) (h : L s = c :: r) : bt s 0 = c.toNat := by
  have hl := L_len s
  rw [h] at hl
  unfold bt
  have h0 : (0 : Int).toNat < s.size := by simp at hl ⊢; omega
  rw [dif_pos h0]
  have : s[(0 : Int).toNat]'h0 = (L s)[0]'(by rw [h]; simp) := rfl
  rw [this]
  simp [h]
theorem drop_cons {s : ByteArray} {p : Nat} {c : UInt8} {r : List UInt8} (h : (L s).drop p = c :: r) : p < s.size ∧ (L s).drop (p + 1) = r ∧ bt s (p : Int) = c.toNat ∧ s.size - p = r.length + 1 := by
  have hl := L_len s
  have hlen := congrArg List.length h
  rw [List.length_drop, hl, List.length_cons] at hlen
  refine ⟨by omega, by rw [← List.drop_drop, h]; rfl, bt_drop s p c r h, hlen⟩
theorem small_some (c : UInt8) : tollbookref12_Small.f (c.toNat : Int) = some (lo c) := by
  unfold tollbookref12_Small.f lo
  by_cases h : 97 ≤ c.toNat
  · rw [if_pos (by omega), decide_eq_true h, Bool.true_and]
    exact congrArg some (decide_eq_decide.2 (by omega))
  · rw [if_neg (by omega), decide_eq_false h, Bool.false_and]
theorem digit_some (c : UInt8) : tollbookref12_digit.f (c.toNat : Int) = some (dg c) := by
  unfold tollbookref12_digit.f dg
  by_cases h : 48 ≤ c.toNat
  · rw [if_pos (by omega), decide_eq_true h, Bool.true_and]
    exact congrArg some (decide_eq_decide.2 (by omega))
  · rw [if_neg (by omega), decide_eq_false h, Bool.false_and]
theorem within_some (c : UInt8) : tollbookref12_within.f (c.toNat : Int) = some (wi c) := by
  unfold tollbookref12_within.f wi
  rw [small_some, Option.bind_some]
  by_cases h : lo c = true
  · rw [if_pos h, h]; rfl
  · rw [if_neg h, digit_some, Option.bind_some, Bool.eq_false_iff.2 h]
    by_cases h2 : dg c = true
    · rw [if_pos h2, h2]; rfl
    · rw [if_neg h2, Bool.eq_false_iff.2 h2]
      have e : ((c.toNat : Int) == 95) = decide (c.toNat = 95) := by
        rw [Bool.eq_iff_iff, beq_iff_eq, decide_eq_true_iff]; omega
      rw [e]; rfl
theorem refpart_loop (s : ByteArray) (hs : s.size ≤ 1000) : ∀ (m i k : Nat), i + m = s.size → tollbookref12_part.l0 (k + m + 1) s (i : Int) = some ((i + run wi ((L s).drop i) : Nat) : Int)
  | 0, i, k, hi => by
    have hl := L_len s
    rw [tollbookref12_part.l0, if_neg (by omega), List.drop_of_length_le (by omega), run_nil]; rfl
  | m + 1, i, k, hi => by
    have hlt : i < (L s).length := by rw [L_len]; omega
    have hd := List.drop_eq_getElem_cons hlt
    obtain ⟨c, hc⟩ : ∃ c, (L s)[i] = c := ⟨_, rfl⟩
    rw [hc] at hd
    obtain ⟨_, _, hb, _⟩ := drop_cons hd
    rw [show k + (m + 1) + 1 = (k + m + 1) + 1 from by omega, tollbookref12_part.l0, if_pos (by omega), if_pos (by omega), hb, within_some, Option.bind_some, hd, run_cons]
    by_cases h : wi c = true
    · rw [if_pos h, if_pos h, wrap_add1 i (by omega), refpart_loop s hs m (i + 1) k (by omega)]
      exact congrArg some (by omega)
    · rw [if_neg h, if_neg h]; rfl
theorem refpart_some (s : ByteArray) (hs : s.size ≤ 1000) (k : Nat) (hk : s.size + 2 ≤ k) : tollbookref12_part.f k s = some ((part (L s) : Nat) : Int) := by
  have hl := L_len s
  obtain ⟨k, rfl⟩ : ∃ j, k = j + s.size + 2 := ⟨k - s.size - 2, by omega⟩
  unfold tollbookref12_part.f
  cases hx : L s with
  | nil =>
    have h0 : s.size = 0 := by rw [hx] at hl; exact hl.symm
    rw [if_pos (by omega), tollbookref12_part.j0, if_pos rfl]; rfl
  | cons c r =>
    have h0 : s.size = r.length + 1 := by rw [hx] at hl; exact hl.symm
    have hd1 : (L s).drop 1 = r := by rw [hx]; rfl
    rw [if_neg (by omega), if_pos (by omega), bt_head s c r hx, small_some, Option.bind_some, tollbookref12_part.j0]
    by_cases h : lo c = true
    · have hw : wi c = true := by simp [wi, h]
      have := refpart_loop s hs r.length 1 (k + 1) (by omega)
      rw [hd1] at this
      rw [if_neg (by simp [h]), show k + s.size + 1 = k + 1 + r.length + 1 from by omega]
      refine Eq.trans this (congrArg some ?_)
      unfold part
      rw [run_cons, run_cons, if_pos h, if_pos hw, if_neg (by omega)]
      omega
    · rw [if_pos (by simp [h])]
      unfold part
      rw [run_cons, if_neg h, if_pos rfl]; rfl
theorem kept_loop (s : ByteArray) : ∀ (m i k : Nat), i + m = 29 → tollbookref12_kept.l0 (k + m + 1) s keptW (i : Int) = some ((List.range' i m).any fun j => L (wordAt j) == L s)
  | 0, i, k, hi => by
    have hl : keptW.length = 29 := rfl
    rw [tollbookref12_kept.l0, if_neg (by omega)]; rfl
  | m + 1, i, k, hi => by
    have hl : keptW.length = 29 := rfl
    rw [show k + (m + 1) + 1 = (k + m + 1) + 1 from by omega, tollbookref12_kept.l0, if_pos (by omega), if_pos (by omega), List.range'_succ, List.any_cons]
    have e : rdOf ByteArray.empty keptW (i : Int) = wordAt i := rfl
    rw [e, Lib.toList_data, Lib.toList_data]
    by_cases h : L (wordAt i) = L s
    · rw [if_pos h, beq_iff_eq.2 h]; rfl
    · rw [if_neg h, beq_eq_false_iff_ne.2 h, Bool.false_or, wrap_add1 i (by omega)]
      exact kept_loop s m (i + 1) k (by omega)
theorem kept_some (s : ByteArray) (k : Nat) (hk : 30 ≤ k) : tollbookref12_kept.f k s = some (amongW 29 (L s)) := by
  obtain ⟨k, rfl⟩ : ∃ j, k = j + 29 + 1 := ⟨k - 30, by omega⟩
  have := kept_loop s 29 0 k rfl
  rw [← List.range_eq_range'] at this
  exact this
theorem refword_some (s : ByteArray) (k : Nat) (hk : 100 ≤ k) : tollbookref12_Word.f k s = some (nameOk (L s)) := by
  have hl := L_len s
  unfold tollbookref12_Word.f nameOk
  by_cases h0 : 0 < s.size
  · rw [if_pos (by omega)]
    by_cases h1 : s.size ≤ 24
    · have hd : 0 < (L s).length := by omega
      have hd2 : (L s).length ≤ 24 := by omega
      rw [if_pos (by omega), refpart_some s (by omega) k (by omega), Option.bind_some, decide_eq_true hd, decide_eq_true hd2]
      by_cases h2 : part (L s) = (L s).length
      · rw [if_pos (by omega), decide_eq_true h2, kept_some s k (by omega)]; rfl
      · rw [if_neg (by omega), decide_eq_false h2]; rfl
    · rw [if_neg (by omega)]; simp; omega
  · rw [if_neg (by omega)]; simp; omega
theorem refdec_some (u p : Int) : tollbookref06_Check.f u p = some (if decB u p = true then 0 else 60) := by
  have := dec_some u p
  unfold decimal_Check.f at this
  unfold tollbookref06_Check.f
  exact this
theorem zero_two (e f : Int) : (e == 0 && (f == 0)) = (decide (e = 0) && decide (f = 0)) := rfl
theorem bare_ifs (c : ByteArray) (d e f : Int) : (if c.toList = ([] : List UInt8) then (if d = 0 then (some (e == 0 && (f == 0))) else (some false)) else (some false)) = some (decide (c.size = 0) && (decide (d = 0) && (decide (e = 0) && decide (f = 0)))) := by
  by_cases h1 : c.size = 0
  · rw [if_pos ((nil_iff' c).2 h1), decide_eq_true h1, Bool.true_and]
    by_cases h2 : d = 0
    · rw [if_pos h2, decide_eq_true h2, Bool.true_and]; rfl
    · rw [if_neg h2, decide_eq_false h2, Bool.false_and]
  · rw [if_neg (fun q => h1 ((nil_iff' c).1 q)), decide_eq_false h1, Bool.false_and]
theorem single_some (K : Nat) (hK : 110 ≤ K) (m : S45) : tollbookref13_single.f K m.f0 m.f1 m.f2 m.f3 m.f4.f0 m.f4.f1 = some (fmB m) := by
  obtain ⟨k, rfl⟩ : ∃ j, K = j + 2 := ⟨K - 2, by omega⟩
  obtain ⟨a, b, c, d, ⟨e, f⟩⟩ := m
  unfold fmB bareB
  simp only []
  have hj1 : ∀ y, y = decide (a = 4 ∨ a = 5) → ¬ (a = 1 ∨ a = 2) → ¬ a = 3 → tollbookref13_single.j1 (k + 1) a y a b c d e f 0 0 = some (if a = 4 ∨ a = 5 then decide (b = 0) && (decide (d = 0) && (decide (e = 0) && (decide (f = 0) && nameOk (L c)))) else if a = 6 ∨ a = 7 then decide (b = 0) && (decide (c.size = 0) && (decide (1 ≤ d) && (decide (d ≤ 4) && (decide (0 ≤ e) && decB e f)))) else false) := by
    intro y hy _ _
    rw [tollbookref13_single.j1, hy]
    have h67 : (if b = 0 then (if c.toList = ([] : List UInt8) then (if d ≥ 1 then (if d ≤ 4 then (if e ≥ 0 then ((tollbookref06_Check.f e f).bind fun t => (some (t == 0))) else (some false)) else (some false)) else (some false)) else (some false)) else (some false)) = some (decide (b = 0) && (decide (c.size = 0) && (decide (1 ≤ d) && (decide (d ≤ 4) && (decide (0 ≤ e) && decB e f))))) := by
      by_cases h1 : b = 0
      · rw [if_pos h1, decide_eq_true h1, Bool.true_and]
        by_cases h2 : c.size = 0
        · rw [if_pos ((nil_iff' c).2 h2), decide_eq_true h2, Bool.true_and]
          by_cases h3 : d ≥ 1
          · rw [if_pos h3, decide_eq_true h3, Bool.true_and]
            by_cases h4 : d ≤ 4
            · rw [if_pos h4, decide_eq_true h4, Bool.true_and]
              by_cases h5 : e ≥ 0
              · rw [if_pos h5, decide_eq_true h5, Bool.true_and, refdec_some, Option.bind_some, dec_zero]
              · rw [if_neg h5, decide_eq_false h5, Bool.false_and]
            · rw [if_neg h4, decide_eq_false h4, Bool.false_and]
          · rw [if_neg h3, decide_eq_false h3, Bool.false_and]
        · rw [if_neg (fun q => h2 ((nil_iff' c).1 q)), decide_eq_false h2, Bool.false_and]
      · rw [if_neg h1, decide_eq_false h1, Bool.false_and]
    by_cases h45 : a = 4 ∨ a = 5
    · rw [decide_eq_true h45, if_pos rfl, if_pos h45, refword_some c k (by omega), Option.bind_some]
      by_cases h1 : b = 0
      · rw [if_pos h1, decide_eq_true h1, Bool.true_and]
        cases hn : nameOk (L c) with
        | true =>
          rw [if_pos rfl]
          by_cases h2 : d = 0
          · rw [if_pos h2, decide_eq_true h2, Bool.true_and, zero_two, Bool.and_true]
          · rw [if_neg h2, decide_eq_false h2, Bool.false_and]
        | false => rw [if_neg Bool.false_ne_true, Bool.and_false, Bool.and_false, Bool.and_false]
      · rw [if_neg h1, decide_eq_false h1, Bool.false_and]
    · rw [decide_eq_false h45, if_neg Bool.false_ne_true, if_neg h45]
      by_cases h6 : a = 6
      · rw [if_pos h6, if_pos (Or.inl h6)]; exact h67
      · rw [if_neg h6]
        by_cases h7 : a = 7
        · rw [if_pos h7, if_pos (Or.inr h7)]; exact h67
        · rw [if_neg h7, if_neg (by omega)]
  have hj0 : ∀ x, x = decide (a = 1 ∨ a = 2) → tollbookref13_single.j0 (k + 2) a x a b c d e f 0 0 = some (if a = 1 ∨ a = 2 then (decide (c.size = 0) && (decide (d = 0) && (decide (e = 0) && decide (f = 0)))) && decide (2 ≤ b) else if a = 3 then (decide (c.size = 0) && (decide (d = 0) && (decide (e = 0) && decide (f = 0)))) && decide (b = 1) else if a = 4 ∨ a = 5 then decide (b = 0) && (decide (d = 0) && (decide (e = 0) && (decide (f = 0) && nameOk (L c)))) else if a = 6 ∨ a = 7 then decide (b = 0) && (decide (c.size = 0) && (decide (1 ≤ d) && (decide (d ≤ 4) && (decide (0 ≤ e) && decB e f)))) else false) := by
    intro x hx
    rw [tollbookref13_single.j0, hx, bare_ifs]
    by_cases h12 : a = 1 ∨ a = 2
    · rw [decide_eq_true h12, if_pos rfl, if_pos h12]
      by_cases h2 : b ≥ 2
      · rw [if_pos h2, decide_eq_true h2, Bool.and_true]
      · rw [if_neg h2, decide_eq_false h2, Bool.and_false]
    · rw [decide_eq_false h12, if_neg Bool.false_ne_true, if_neg h12]
      by_cases h3 : a = 3
      · rw [if_pos h3, if_pos h3]
        by_cases h2 : b = 1
        · rw [if_pos h2, decide_eq_true h2, Bool.and_true]
        · rw [if_neg h2, decide_eq_false h2, Bool.and_false]
      · rw [if_neg h3, if_neg h3]
        by_cases h4 : a = 4
        · rw [if_pos h4, hj1 _ (by rw [h4]; rfl) h12 h3]
        · rw [if_neg h4, hj1 _ (by rw [show (a == 5) = decide (a = 5) from rfl]; exact decide_eq_decide.2 ⟨Or.inr, fun q => q.resolve_left h4⟩) h12 h3]
  unfold tollbookref13_single.f
  by_cases h1 : a = 1
  · rw [if_pos h1, hj0 _ (by rw [h1]; rfl)]
  · rw [if_neg h1, hj0 _ (by rw [show (a == 2) = decide (a = 2) from rfl]; exact decide_eq_decide.2 ⟨Or.inr, fun q => q.resolve_left h1⟩)]
mutual
def Tr.toS : Tr → S51
  | .mk n ks => ⟨n, toSs ks⟩
def toSs : List Tr → List S51
  | [] => []
  | t :: ts => t.toS :: toSs ts
end
def Tr.root : Tr → S45
  | .mk n _ => n
abbrev GR := Int × Int × ByteArray × Int × Int × Int × (List S51) × Int
def resV (m : S45) (ks : List S51) (j : Int) : GR := (m.f0, m.f1, m.f2, m.f3, m.f4.f0, m.f4.f1, ks, j)
def failV : GR := (0, 0, (⟨#[]⟩ : ByteArray), 0, 0, 0, [], -1)
def Grown (F : S45 → Bool) (l : List S45) (deep : Int) (i : Nat) (x : Option GR) : Prop :=
  (∃ m ts, ∃ j : Nat, x = some (resV m (toSs ts) (j : Int)) ∧ Tr.wf F deep 0 (.mk m ts) ∧ l.drop i = (Tr.mk m ts).flat ++ l.drop j ∧ i < j ∧ j ≤ l.length) ∨ (x = some failV ∧ ¬ ∃ t r, Tr.wf F deep 0 t ∧ l.drop i = t.flat ++ r)
theorem fmB_zero (m : S45) (h : fmB m = true) : m.f0 ≠ 0 := by
  intro e
  unfold fmB at h
  rw [e, if_neg (by omega), if_neg (by omega), if_neg (by omega), if_neg (by omega)] at h
  cases h
theorem fmB_par (m : S45) (h : fmB m = true) (h1 : 0 < m.f1) : m.f0 = 1 ∨ m.f0 = 2 ∨ m.f0 = 3 := by
  unfold fmB at h
  by_cases a : m.f0 = 1 ∨ m.f0 = 2
  · rcases a with a | a
    · exact Or.inl a
    · exact Or.inr (Or.inl a)
  · rw [if_neg a] at h
    by_cases b : m.f0 = 3
    · exact Or.inr (Or.inr b)
    · rw [if_neg b] at h
      split at h
      · simp only [Bool.and_eq_true, decide_eq_true_iff] at h; omega
      · split at h
        · simp only [Bool.and_eq_true, decide_eq_true_iff] at h; omega
        · cases h
theorem wf_zero (deep under : Int) (m : S45) (ts : List Tr) : Tr.wf fmB deep under (.mk m ts) ↔ Tr.wf fmB deep 0 (.mk m ts) ∧ ¬ (m.f0 = under ∧ under ≠ 3) := by
  rw [Tr.wf, Tr.wf]
  constructor
  · rintro ⟨h1, h2, h3, h4, h5⟩
    exact ⟨⟨h1, h2, fun q => fmB_zero m h2 q.1, h4, h5⟩, h3⟩
  · rintro ⟨⟨h1, h2, _, h4, h5⟩, h3⟩
    exact ⟨h1, h2, h3, h4, h5⟩
section
variable (l : List S45) (hl : l.length ≤ 64)
include hl
set_option maxHeartbeats 1000000 in
theorem refkids (deep : Int) (hd0 : 1 ≤ deep) (hd : deep ≤ 16) (m : S45) (hm : fmB m = true) (Kg : Nat) (hG : ∀ i, i ≤ l.length → ∀ K, Kg ≤ K → Grown fmB l (deep + 1) i (tollbookref13_grown.f K l (i : Int) (deep + 1))) :
    ∀ (n i c K : Nat) (acc : List S51), l.length - i ≤ n → i ≤ l.length → c ≤ i → (c : Int) ≤ m.f1 → acc.length = c → Kg + n + 2 ≤ K →
      (∃ ts, ∃ j : Nat, tollbookref13_grown.l0 K l (i : Int) deep (c : Int) m.f0 m.f1 m.f2 m.f3 m.f4.f0 m.f4.f1 m.f0 m.f1 m.f2 m.f3 m.f4.f0 m.f4.f1 acc = some (resV m (acc ++ toSs ts) (j : Int)) ∧ (ts.length : Int) = m.f1 - c ∧ wfs fmB (deep + 1) m.f0 ts ∧ l.drop i = flats ts ++ l.drop j ∧ i ≤ j ∧ j ≤ l.length) ∨
      (tollbookref13_grown.l0 K l (i : Int) deep (c : Int) m.f0 m.f1 m.f2 m.f3 m.f4.f0 m.f4.f1 m.f0 m.f1 m.f2 m.f3 m.f4.f0 m.f4.f1 acc = some failV ∧ ¬ ∃ ts r, (ts.length : Int) = m.f1 - c ∧ wfs fmB (deep + 1) m.f0 ts ∧ l.drop i = flats ts ++ r) := by
  intro n
  induction n with
  | zero =>
    intro i c K acc hn hi hci hc ha hK
    obtain ⟨K, rfl⟩ : ∃ j, K = j + 1 := ⟨K - 1, by omega⟩
    rw [tollbookref13_grown.l0]
    by_cases h1 : (c : Int) < m.f1
    · rw [if_pos h1, wrap_id (x := deep + 1) (by omega) (by omega)]
      rcases hG i hi K (by omega) with ⟨m2, ts2, j, e, hw2, hd2, hij, hj⟩ | ⟨e, hno⟩
      · omega
      · rw [e, Option.bind_some, if_pos (show failV.2.2.2.2.2.2.2 < 0 by show (-1 : Int) < 0; decide)]
        refine Or.inr ⟨rfl, ?_⟩
        rintro ⟨ts, r, h2, h3, h4⟩
        cases ts with
        | nil => simp only [List.length_nil] at h2; omega
        | cons t ts =>
          obtain ⟨m3, ks3⟩ := t
          rw [wfs] at h3
          rw [flats, List.append_assoc] at h4
          exact hno ⟨_, _, ((wf_zero _ _ _ _).1 h3.1).1, h4⟩
    · rw [if_neg h1]
      refine Or.inl ⟨[], i, by rw [toSs, List.append_nil]; rfl, by simp only [List.length_nil]; omega, by rw [wfs]; trivial, by rw [flats]; rfl, Nat.le_refl _, hi⟩
  | succ n ih =>
    intro i c K acc hn hi hci hc ha hK
    obtain ⟨K, rfl⟩ : ∃ j, K = j + 1 := ⟨K - 1, by omega⟩
    rw [tollbookref13_grown.l0]
    by_cases h1 : (c : Int) < m.f1
    · rw [if_pos h1, wrap_id (x := deep + 1) (by omega) (by omega)]
      rcases hG i hi K (by omega) with ⟨m2, ts2, j, e, hw2, hd2, hij, hj⟩ | ⟨e, hno⟩
      · rw [e, Option.bind_some]
        have hnn : ¬ ((j : Nat) : Int) < 0 := by omega
        have hgo : (m2.f0 = m.f0 ∧ m.f0 ≠ 3) ∨ ¬ (m2.f0 = m.f0 ∧ m.f0 ≠ 3) := Classical.em _
        have hfail : (m2.f0 = m.f0 ∧ m.f0 ≠ 3) → ¬ ∃ ts r, (ts.length : Int) = m.f1 - c ∧ wfs fmB (deep + 1) m.f0 ts ∧ l.drop i = flats ts ++ r := by
          rintro hk ⟨ts, r, h2, h3, h4⟩
          cases ts with
          | nil => simp only [List.length_nil] at h2; omega
          | cons t ts =>
            rw [wfs] at h3
            rw [flats, List.append_assoc, hd2] at h4
            obtain ⟨e3, _⟩ := flat_uniq fmB _ _ _ _ _ t _ _ hw2 h3.1 h4
            subst e3
            exact ((wf_zero _ _ _ _).1 h3.1).2 hk
        have hnext : ¬ (m2.f0 = m.f0 ∧ m.f0 ≠ 3) → _ := fun hk => by
          have IH := ih j (c + 1) K (acc ++ [(Tr.mk m2 ts2).toS]) (by omega) hj (by omega) (by omega) (by rw [List.length_append, ha]; rfl) (by omega)
          exact (show (∃ ts, ∃ j2 : Nat, tollbookref13_grown.l0 K l (j : Int) deep ((c + 1 : Nat) : Int) m.f0 m.f1 m.f2 m.f3 m.f4.f0 m.f4.f1 m.f0 m.f1 m.f2 m.f3 m.f4.f0 m.f4.f1 (acc ++ [(Tr.mk m2 ts2).toS]) = some (resV m (acc ++ toSs ts) (j2 : Int)) ∧ (ts.length : Int) = m.f1 - c ∧ wfs fmB (deep + 1) m.f0 ts ∧ l.drop i = flats ts ++ l.drop j2 ∧ i ≤ j2 ∧ j2 ≤ l.length) ∨
            (tollbookref13_grown.l0 K l (j : Int) deep ((c + 1 : Nat) : Int) m.f0 m.f1 m.f2 m.f3 m.f4.f0 m.f4.f1 m.f0 m.f1 m.f2 m.f3 m.f4.f0 m.f4.f1 (acc ++ [(Tr.mk m2 ts2).toS]) = some failV ∧ ¬ ∃ ts r, (ts.length : Int) = m.f1 - c ∧ wfs fmB (deep + 1) m.f0 ts ∧ l.drop i = flats ts ++ r) from by
            rcases IH with ⟨ts, j2, e2, q1, q2, q3, q4, q5⟩ | ⟨e2, q⟩
            · refine Or.inl ⟨.mk m2 ts2 :: ts, j2, ?_, by rw [List.length_cons]; omega, ?_, ?_, by omega, q5⟩
              · rw [e2, toSs, List.append_assoc]; rfl
              · rw [wfs]; exact ⟨(wf_zero _ _ _ _).2 ⟨hw2, hk⟩, q2⟩
              · rw [flats, List.append_assoc, ← q3, hd2]
            · refine Or.inr ⟨e2, ?_⟩
              rintro ⟨ts, r, h2, h3, h4⟩
              cases ts with
              | nil => simp only [List.length_nil] at h2; omega
              | cons t ts =>
                rw [wfs] at h3
                rw [flats, List.append_assoc, hd2] at h4
                obtain ⟨_, e4⟩ := flat_uniq fmB _ _ _ _ _ t _ _ hw2 h3.1 h4
                exact q ⟨ts, r, by rw [List.length_cons] at h2; omega, h3.2, e4⟩)
        rw [show (resV m2 (toSs ts2) (j : Int)).2.2.2.2.2.2.2 = (j : Int) from rfl, if_neg hnn]
        have hal : acc.length < 1759218604441 := by omega
        have hcons : (⟨⟨(resV m2 (toSs ts2) (j : Int)).1, (resV m2 (toSs ts2) (j : Int)).2.1, (resV m2 (toSs ts2) (j : Int)).2.2.1, (resV m2 (toSs ts2) (j : Int)).2.2.2.1, ⟨(resV m2 (toSs ts2) (j : Int)).2.2.2.2.1, (resV m2 (toSs ts2) (j : Int)).2.2.2.2.2.1⟩⟩, (resV m2 (toSs ts2) (j : Int)).2.2.2.2.2.2.1⟩ : S51) = (Tr.mk m2 ts2).toS := by rw [Tr.toS]; rfl
        rw [hcons, wrap_add1 c (by omega), show (resV m2 (toSs ts2) (j : Int)).1 = m2.f0 from rfl, if_pos hal]
        rcases fmB_par m hm (by omega) with hp | hp | hp
        · rw [if_pos hp]
          by_cases h2 : m2.f0 = m.f0
          · rw [if_pos h2]; exact Or.inr ⟨rfl, hfail ⟨h2, by omega⟩⟩
          · rw [if_neg h2]; exact hnext (fun q => h2 q.1)
        · rw [if_neg (by omega), if_pos hp]
          by_cases h2 : m2.f0 = m.f0
          · rw [if_pos h2]; exact Or.inr ⟨rfl, hfail ⟨h2, by omega⟩⟩
          · rw [if_neg h2]; exact hnext (fun q => h2 q.1)
        · rw [if_neg (by omega), if_neg (by omega)]; exact hnext (fun q => q.2 hp)
      · rw [e, Option.bind_some, if_pos (show failV.2.2.2.2.2.2.2 < 0 by show (-1 : Int) < 0; decide)]
        refine Or.inr ⟨rfl, ?_⟩
        rintro ⟨ts, r, h2, h3, h4⟩
        cases ts with
        | nil => simp only [List.length_nil] at h2; omega
        | cons t ts =>
          obtain ⟨m3, ks3⟩ := t
          rw [wfs] at h3
          rw [flats, List.append_assoc] at h4
          exact hno ⟨_, _, ((wf_zero _ _ _ _).1 h3.1).1, h4⟩
    · rw [if_neg h1]
      refine Or.inl ⟨[], i, by rw [toSs, List.append_nil]; rfl, by simp only [List.length_nil]; omega, by rw [wfs]; trivial, by rw [flats]; rfl, Nat.le_refl _, hi⟩
theorem grown_spec : ∀ (d : Nat) (deep : Int), 17 ≤ (d : Int) + deep → 1 ≤ deep → deep ≤ 17 → ∀ i, i ≤ l.length → ∀ K, (d + 1) * 300 ≤ K → Grown fmB l deep i (tollbookref13_grown.f K l (i : Int) deep) := by
  intro d
  induction d with
  | zero =>
    intro deep h1 h2 h3 i hi K hK
    obtain ⟨K, rfl⟩ : ∃ j, K = j + 2 := ⟨K - 2, by omega⟩
    have hd : deep = 17 := by omega
    subst hd
    have hno : ¬ ∃ t r, Tr.wf fmB 17 0 t ∧ l.drop i = t.flat ++ r := by
      rintro ⟨⟨m, ts⟩, r, hw, _⟩
      rw [Tr.wf] at hw; omega
    rw [tollbookref13_grown.f]
    by_cases h : (i : Int) ≥ (l.length : Int)
    · rw [if_pos h, tollbookref13_grown.j0, if_pos rfl]; exact Or.inr ⟨rfl, hno⟩
    · rw [if_neg h, tollbookref13_grown.j0, if_pos (by decide)]; exact Or.inr ⟨rfl, hno⟩
  | succ d ih =>
    intro deep h1 h2 h3 i hi K hK
    obtain ⟨B, hB⟩ : ∃ B, (d + 1) * 300 = B := ⟨_, rfl⟩
    have hK : B + 300 ≤ K := by omega
    rw [hB] at ih
    obtain ⟨K, rfl⟩ : ∃ j, K = j + 2 := ⟨K - 2, by omega⟩
    clear hB
    rw [tollbookref13_grown.f]
    by_cases h : (i : Int) ≥ (l.length : Int)
    · rw [if_pos h, tollbookref13_grown.j0, if_pos rfl]
      refine Or.inr ⟨rfl, ?_⟩
      rintro ⟨⟨m, ts⟩, r, _, h4⟩
      rw [List.drop_of_length_le (by omega), Tr.flat] at h4
      cases h4
    · rw [if_neg h, tollbookref13_grown.j0]
      by_cases hd : deep > 16
      · rw [if_pos (decide_eq_true hd)]
        refine Or.inr ⟨rfl, ?_⟩
        rintro ⟨⟨m, ts⟩, r, hw, _⟩
        rw [Tr.wf] at hw; omega
      · have hlt : i < l.length := by omega
        have hdr := rd_dropT l i hlt
        rw [if_neg (by simp only [decide_eq_true_iff]; exact hd), if_pos (by omega), if_pos (by omega)]
        obtain ⟨m, hm⟩ : ∃ m, rd_T45 l (i : Int) = m := ⟨_, rfl⟩
        rw [hm] at hdr ⊢
        rw [single_some K (by omega), Option.bind_some]
        by_cases hf : fmB m = true
        · rw [if_pos hf, wrap_add1 i (by omega)]
          rcases refkids l hl deep h2 (by omega) m hf B (fun i hi K hK => ih (deep + 1) (by omega) (by omega) (by omega) i hi K hK) 64 (i + 1) 0 K [] (by omega) (by omega) (Nat.zero_le _) (by have := fmB_kids m hf; omega) (by exact List.length_nil) (by omega) with ⟨ts, j, e, q1, q2, q3, q4, q5⟩ | ⟨e, q⟩
          · refine Or.inl ⟨m, ts, j, ?_, ?_, ?_, by omega, q5⟩
            · rw [show ((0 : Nat) : Int) = 0 from rfl, List.nil_append] at e; exact e
            · rw [Tr.wf]; exact ⟨by omega, hf, fun q => fmB_zero m hf q.1, by omega, q2⟩
            · rw [Tr.flat, List.cons_append, ← q3, hdr]
          · rw [show ((0 : Nat) : Int) = 0 from rfl] at e q
            refine Or.inr ⟨e, ?_⟩
            rintro ⟨⟨m3, ts⟩, r, hw, h4⟩
            rw [hdr, Tr.flat, List.cons_append] at h4
            obtain ⟨rfl, h5⟩ := List.cons.inj h4
            rw [Tr.wf] at hw
            exact q ⟨ts, r, by omega, hw.2.2.2.2, h5⟩
        · rw [if_neg hf]
          refine Or.inr ⟨rfl, ?_⟩
          rintro ⟨⟨m3, ts⟩, r, hw, h4⟩
          rw [hdr, Tr.flat, List.cons_append] at h4
          obtain ⟨rfl, _⟩ := List.cons.inj h4
          rw [Tr.wf] at hw
          exact hf hw.2.1
end
theorem sameT_loop (xs : List ByteArray) (hx : xs.length ≤ 8796093022190) : ∀ (m i k : Nat), i + m = xs.length → tollbookkit_SameTexts.l0 (k + m + 1) xs xs (i : Int) = some true
  | 0, i, k, hi => by rw [tollbookkit_SameTexts.l0, if_neg (by omega)]
  | m + 1, i, k, hi => by
    rw [show k + (m + 1) + 1 = (k + m + 1) + 1 from by omega, tollbookkit_SameTexts.l0, if_pos (by omega), if_pos (by omega), if_pos (by omega), if_pos rfl, wrap_add1 i (by omega), sameT_loop xs hx m (i + 1) k (by omega)]
theorem sameT_some (xs : List ByteArray) (hx : xs.length ≤ 8796093022190) (k : Nat) (hk : xs.length + 1 ≤ k) : tollbookkit_SameTexts.f k xs xs = some true := by
  unfold tollbookkit_SameTexts.f
  obtain ⟨k, rfl⟩ : ∃ j, k = j + xs.length + 1 := ⟨k - xs.length - 1, by omega⟩
  rw [if_pos rfl]; exact sameT_loop xs hx xs.length 0 k (by omega)
theorem check_some (l : List S45) (k : Nat) (hk : 6000 ≤ k) : ∃ c, traits_Check.f k l = some c ∧ tollbookref13_Check.f k l = some c := by
  unfold traits_Check.f tollbookref13_Check.f
  by_cases h0 : l.length = 0
  · rw [if_pos h0, if_pos (show (l.length : Int) = 0 by omega)]; exact ⟨0, rfl, rfl⟩
  · rw [if_neg h0, if_neg (show ¬ (l.length : Int) = 0 by omega)]
    unfold tollbookref13_Of.f
    by_cases h1 : 64 < l.length
    · rw [if_pos h1, if_pos (show (l.length : Int) > 64 by omega)]; exact ⟨131, rfl, rfl⟩
    · rw [if_neg h1, if_neg (show ¬ (l.length : Int) > 64 by omega)]
      have g := grown_spec l (by omega) 16 1 (by omega) (by omega) (by omega) 0 (Nat.zero_le _) k (by omega)
      rw [show ((0 : Nat) : Int) = 0 from rfl] at g
      rcases tree_spec k fmB (formed_some k (by omega)) fmB_kids l 20 1 0 0 (Nat.zero_le _) (by omega) (by omega) with ⟨t, j, e, hw, hd, _, hj⟩ | ⟨j, e, hj, hno⟩
      · rcases g with ⟨m, ts, j2, e2, hw2, hd2, _, hj2⟩ | ⟨e2, hno2⟩
        · have hj12 : l.length - j = l.length - j2 := by
            rw [hd] at hd2
            have := (flat_uniq fmB _ _ _ _ _ _ _ _ hw hw2 hd2).2
            have := congrArg List.length this
            rwa [List.length_drop, List.length_drop] at this
          obtain rfl : j = j2 := by omega
          rw [e, e2, Option.bind_some, Option.bind_some]
          by_cases hjl : j = l.length
          · refine ⟨0, ?_, ?_⟩
            · show some (if true = true ∧ j = l.length then (0 : Int) else 131) = some 0
              rw [if_pos ⟨rfl, hjl⟩]
            · show (if ((j : Int) == (l.length : Int)) = true then some (0 : Int) else some 131) = some 0
              rw [if_pos (beq_iff_eq.2 (by omega))]
          · refine ⟨131, ?_, ?_⟩
            · show some (if true = true ∧ j = l.length then (0 : Int) else 131) = some 131
              rw [if_neg (fun q => hjl q.2)]
            · show (if ((j : Int) == (l.length : Int)) = true then some (0 : Int) else some 131) = some 131
              rw [if_neg (fun q => hjl (by have := beq_iff_eq.1 q; omega))]
        · exact absurd ⟨t, _, hw, hd⟩ hno2
      · rcases g with ⟨m, ts, j2, e2, hw2, hd2, _, hj2⟩ | ⟨e2, hno2⟩
        · exact absurd ⟨_, _, hw2, hd2⟩ hno
        · rw [e, e2, Option.bind_some, Option.bind_some]
          refine ⟨131, ?_, ?_⟩
          · show some (if false = true ∧ j = l.length then (0 : Int) else 131) = some 131
            rw [if_neg (fun q => Bool.false_ne_true q.1)]
          · show (if ((-1 : Int) == (l.length : Int)) = true then some (0 : Int) else some 131) = some 131
            rw [if_neg (fun q => by have := beq_iff_eq.1 q; omega)]
theorem awake_at : tollbooklaw13_awake.f 40 = some true := by decide +kernel
theorem awake_some : ∀ k, 40 ≤ k → tollbooklaw13_awake.f k = some true := by
  intro k hk
  obtain ⟨j, rfl⟩ : ∃ j, k = 40 + j := ⟨k - 40, by omega⟩
  induction j with
  | zero => exact awake_at
  | succ j ih => exact tollbooklaw13_awake.mono (40 + j) _ (ih (by omega))
end Go.Proofs.YtcljnjnlafkieaaGreatDoorR.CTr
/- Conditions made plain, as trees: the program's walk over the nodes answers the tree's nodes. -/
namespace Go.Proofs.YtcljnjnlafkieaaGreatDoorR.CTr
open Go Go.RowKit Go.Proofs.YtcljnjnlafkieaaGreatDoorR.PPLA Go.Proofs.YtcljnjnlafkieaaGreatDoorRW.PrintWords Go.Proofs.YtcljnjnlafkieaaGreatDoorRW.PrintLast
def opp (n : Int) : Int := if n = 1 then 4 else if n = 2 then 3 else if n = 3 then 2 else 1
def kindOf (f0 : Int) (nt : Bool) : Int := if nt = true then 3 - f0 else f0
def groupN (kind : Int) (n : Nat) : S45 := ⟨kind, (n : Int), ⟨#[]⟩, 0, ⟨0, 0⟩⟩
def leafT (n : S45) (nt : Bool) : Tr :=
  if nt = true then (if n.f0 = 6 ∨ n.f0 = 7 then .mk ⟨n.f0, n.f1, n.f2, opp n.f3, n.f4⟩ [] else .mk ⟨3, 1, ⟨#[]⟩, 0, ⟨0, 0⟩⟩ [.mk n []]) else .mk n []
def Tr.kids : Tr → List Tr
  | .mk _ ks => ks
def merge (kind : Int) : List Tr → List Tr
  | [] => []
  | t :: ts => (if t.root.f0 = kind then t.kids else [t]) ++ merge kind ts
mutual
def Tr.pl : Tr → Bool → Tr
  | .mk n ks, nt =>
    if n.f0 = 3 then (pls ks (!nt)).headD (.mk n [])
    else if n.f0 = 1 ∨ n.f0 = 2 then .mk (groupN (kindOf n.f0 nt) (merge (kindOf n.f0 nt) (pls ks nt)).length) (merge (kindOf n.f0 nt) (pls ks nt))
    else leafT n nt
def pls : List Tr → Bool → List Tr
  | [], _ => []
  | t :: ts, nt => t.pl nt :: pls ts nt
end
theorem pls_len : ∀ (ts : List Tr) (nt : Bool), (pls ts nt).length = ts.length
  | [], _ => by rw [pls]
  | t :: ts, nt => by rw [pls, List.length_cons, List.length_cons, pls_len ts nt]
theorem wfs_mem (F : S45 → Bool) (a b : Int) : ∀ (ts : List Tr), wfs F a b ts → ∀ t ∈ ts, t.wf F a b
  | [], _, t, h => by cases h
  | x :: xs, hw, t, h => by
    rw [wfs] at hw
    rcases List.mem_cons.1 h with rfl | h
    · exact hw.1
    · exact wfs_mem F a b xs hw.2 t h
theorem flat_root (t : Tr) : t.flat = t.root :: flats t.kids := by
  cases t; rw [Tr.flat]; first | done | rfl
theorem fmB_leaf (m : S45) (h : fmB m = true) (h1 : ¬ (m.f0 = 1 ∨ m.f0 = 2)) (h3 : ¬ m.f0 = 3) : m.f1 = 0 ∧ (m.f0 = 4 ∨ m.f0 = 5 ∨ m.f0 = 6 ∨ m.f0 = 7) := by
  unfold fmB at h
  rw [if_neg h1, if_neg h3] at h
  split at h
  · simp only [Bool.and_eq_true, decide_eq_true_iff] at h; omega
  · split at h
    · simp only [Bool.and_eq_true, decide_eq_true_iff] at h; omega
    · cases h
theorem fmB_not (m : S45) (h : fmB m = true) (h3 : m.f0 = 3) : m.f1 = 1 := by
  unfold fmB at h
  rw [if_neg (by omega), if_pos h3] at h
  simp only [Bool.and_eq_true, decide_eq_true_iff] at h
  exact h.2
theorem one_kid {ts : List Tr} (h : ts.length = 1) : ∃ t, ts = [t] := by
  cases ts with
  | nil => cases h
  | cons t ts => cases ts with
    | nil => exact ⟨t, rfl⟩
    | cons _ _ => simp at h
mutual
theorem pl_kids : ∀ (t : Tr) (nt : Bool) (a b : Int), t.wf fmB a b → (t.pl nt).root.f1 = ((t.pl nt).kids.length : Int)
  | .mk n ks, nt, a, b, hw => by
    rw [Tr.wf] at hw
    rw [Tr.pl]
    by_cases h3 : n.f0 = 3
    · rw [if_pos h3]
      obtain ⟨t, rfl⟩ := one_kid (ts := ks) (by have := fmB_not n hw.2.1 h3; have := hw.2.2.2.1; omega)
      have := hw.2.2.2.2
      rw [wfs] at this
      exact pls_kids [t] (!nt) _ _ hw.2.2.2.2 _ (by rw [pls]; exact List.mem_cons_self)
    · rw [if_neg h3]
      by_cases h1 : n.f0 = 1 ∨ n.f0 = 2
      · rw [if_pos h1]; rfl
      · rw [if_neg h1]
        have hl := fmB_leaf n hw.2.1 h1 h3
        unfold leafT
        by_cases h : nt = true
        · rw [if_pos h]
          by_cases h6 : n.f0 = 6 ∨ n.f0 = 7
          · rw [if_pos h6]; exact hl.1
          · rw [if_neg h6]; rfl
        · rw [if_neg h]; exact hl.1
theorem pls_kids : ∀ (ts : List Tr) (nt : Bool) (a b : Int), wfs fmB a b ts → ∀ p ∈ pls ts nt, p.root.f1 = (p.kids.length : Int)
  | [], nt, a, b, _, p, hp => by rw [pls] at hp; cases hp
  | t :: ts, nt, a, b, hw, p, hp => by
    rw [wfs] at hw
    rw [pls] at hp
    rcases List.mem_cons.1 hp with rfl | hp
    · exact pl_kids t nt a b hw.1
    · exact pls_kids ts nt a b hw.2 p hp
end
theorem flats_kids_le (t : Tr) : (flats t.kids).length + 1 = t.flat.length := by rw [flat_root, List.length_cons]
theorem merge_flats (kind : Int) : ∀ (ps : List Tr), (flats (merge kind ps)).length ≤ (flats ps).length
  | [] => by rw [merge]; exact Nat.le_refl _
  | t :: ts => by
    have := merge_flats kind ts
    have hk := flats_kids_le t
    rw [merge, flats_append, flats, List.length_append, List.length_append]
    split
    · omega
    · rw [flats, flats, List.append_nil]; omega
mutual
theorem pl_len : ∀ (t : Tr) (nt : Bool), (t.pl nt).flat.length ≤ 2 * t.flat.length
  | .mk n ks, nt => by
    have ih := pls_flats ks
    rw [Tr.pl, Tr.flat, List.length_cons]
    split
    · cases ks with
      | nil => rw [pls]; show (Tr.flat (.mk n [])).length ≤ _; rw [Tr.flat, flats]; simp
      | cons t ts =>
        have := ih (!nt)
        rw [pls, flats, List.length_append] at this
        rw [pls]
        show (t.pl (!nt)).flat.length ≤ _
        omega
    · split
      · have h1 := ih nt
        have h2 := merge_flats (kindOf n.f0 nt) (pls ks nt)
        rw [Tr.flat, List.length_cons]
        omega
      · unfold leafT
        split
        · split
          · rw [Tr.flat, flats]; simp; omega
          · rw [Tr.flat, flats, flats, Tr.flat, flats]; simp; omega
        · rw [Tr.flat, flats]; simp; omega
theorem pls_flats : ∀ (ts : List Tr) (nt : Bool), (flats (pls ts nt)).length ≤ 2 * (flats ts).length
  | [], nt => by rw [pls]; simp [flats]
  | t :: ts, nt => by
    have h1 := pl_len t nt
    have h2 := pls_flats ts nt
    rw [pls, flats, flats, List.length_append, List.length_append]; omega
end
theorem kids_le_flats : ∀ (ks : List Tr), ks.length ≤ (flats ks).length
  | [] => Nat.zero_le _
  | k :: ks => by
    have := kids_le_flats ks
    have := flats_kids_le k
    rw [flats, List.length_append, List.length_cons]; omega
theorem opp_some (a : Int) : traits_opposite.f a = some (opp a) := by
  unfold traits_opposite.f opp
  split
  · rfl
  · split
    · rfl
    · split <;> rfl
theorem bare_some (m : S45) (nt : Bool) : traits_bare.f m.f0 m.f1 m.f2 m.f3 m.f4.f0 m.f4.f1 nt = some (leafT m nt).flat := by
  unfold traits_bare.f leafT
  by_cases h : nt = true
  · rw [if_pos h, if_pos h]
    by_cases h6 : m.f0 = 6 ∨ m.f0 = 7
    · rw [if_pos h6, if_pos h6, opp_some]; rw [Tr.flat, flats]; rfl
    · rw [if_neg h6, if_neg h6, Tr.flat, flats, Tr.flat, flats]; rfl
  · rw [if_neg h, if_neg h, Tr.flat, flats]
theorem kidsP_spec (l : List S45) (T : Nat → Option (List S45 × Nat)) (nt : Bool) (kind : Int) : ∀ (ts acc : List Tr) (i : Nat) (rest : List S45),
    (∀ t ∈ ts, (t.pl nt).root.f1 = ((t.pl nt).kids.length : Int) ∧ ∀ i rest, l.drop i = t.flat ++ rest → T i = some ((t.pl nt).flat, i + t.flat.length)) → l.drop i = flats ts ++ rest → acc.length + 2 * (flats ts).length ≤ 100000 →
    kidsP T kind ts.length (groupN kind acc.length :: flats acc) i = some (groupN kind (acc ++ merge kind (pls ts nt)).length :: flats (acc ++ merge kind (pls ts nt)), i + (flats ts).length)
  | [], acc, i, rest, _, _, _ => by simp only [pls, merge, List.append_nil, show flats [] = [] from by rw [flats], kidsP, List.length_nil, Nat.add_zero]
  | t :: ts, acc, i, rest, hT, hd, hb => by
    obtain ⟨hk, hTt⟩ := hT t List.mem_cons_self
    rw [flats, List.append_assoc] at hd
    rw [flats, List.length_append] at hb
    have hlen := pl_len t nt
    have hkl := kids_le_flats (t.pl nt).kids
    have hfk := flats_kids_le (t.pl nt)
    have hdj : l.drop (i + t.flat.length) = flats ts ++ rest := by rw [← List.drop_drop, hd, List.drop_left]
    rw [List.length_cons, kidsP, hTt i _ hd, Option.bind_some, flat_root (t.pl nt)]
    simp only []
    rw [pls, merge, show (flats (t :: ts)).length = t.flat.length + (flats ts).length from by rw [flats, List.length_append], ← Nat.add_assoc, ← List.append_assoc]
    by_cases hc : (t.pl nt).root.f0 = kind
    · rw [if_pos hc, if_pos hc]
      have e : ({ groupN kind acc.length with f1 := wrap64 ((groupN kind acc.length).f1 + (t.pl nt).root.f1) } :: flats acc) ++ flats (t.pl nt).kids = groupN kind (acc ++ (t.pl nt).kids).length :: flats (acc ++ (t.pl nt).kids) := by
        rw [flats_append, List.cons_append, hk, List.length_append]
        show S45.mk kind (wrap64 ((acc.length : Int) + ((t.pl nt).kids.length : Int))) _ _ _ :: _ = S45.mk kind ((acc.length + (t.pl nt).kids.length : Nat) : Int) _ _ _ :: _
        rw [wrap_id (by omega) (by omega), Int.natCast_add]; rfl
      rw [e]
      exact kidsP_spec l T nt kind ts (acc ++ (t.pl nt).kids) _ rest (fun x hx => hT x (List.mem_cons_of_mem _ hx)) hdj (by rw [List.length_append]; omega)
    · rw [if_neg hc, if_neg hc]
      have e : ({ groupN kind acc.length with f1 := wrap64 ((groupN kind acc.length).f1 + 1) } :: flats acc) ++ ((t.pl nt).root :: flats (t.pl nt).kids) = groupN kind (acc ++ [t.pl nt]).length :: flats (acc ++ [t.pl nt]) := by
        rw [flats_append, List.cons_append, List.length_append, flats, flats, List.append_nil, flat_root (t.pl nt)]
        show S45.mk kind (wrap64 ((acc.length : Int) + 1)) _ _ _ :: _ = S45.mk kind ((acc.length + 1 : Nat) : Int) _ _ _ :: _
        rw [wrap_id (by omega) (by omega), Int.natCast_add]; rfl
      rw [e]
      exact kidsP_spec l T nt kind ts (acc ++ [t.pl nt]) _ rest (fun x hx => hT x (List.mem_cons_of_mem _ hx)) hdj (by rw [List.length_append, List.length_singleton]; omega)
theorem plainF_spec (l : List S45) (hl : l.length ≤ 64) : ∀ (d : Nat) (t : Tr) (deep under : Int) (nt : Bool) (i : Nat) (rest : List S45), t.wf fmB deep under → 17 ≤ (d : Int) + deep → l.drop i = t.flat ++ rest → plainF l d nt i = some ((t.pl nt).flat, i + t.flat.length)
  | 0, .mk n ks, deep, under, nt, i, rest, hw, hd, _ => by rw [Tr.wf] at hw; omega
  | d + 1, .mk n ks, deep, under, nt, i, rest, hw, hd, h => by
    rw [Tr.wf] at hw
    obtain ⟨h1, h2, h3, h4, h5⟩ := hw
    have hlt : i < l.length := by
      refine Nat.lt_of_not_le fun q => ?_
      rw [List.drop_of_length_le q, Tr.flat] at h
      cases h
    have hsz : (flats ks).length < 64 := by
      have := congrArg List.length h
      rw [List.length_drop, Tr.flat, List.length_append, List.length_cons] at this
      omega
    rw [rd_dropT l i hlt, Tr.flat, List.cons_append] at h
    obtain ⟨hn, h⟩ := List.cons.inj h
    rw [plainF, if_pos hlt, hn, Tr.flat, List.length_cons]
    have hks : ∀ (nt : Bool), ∀ t ∈ ks, (t.pl nt).root.f1 = ((t.pl nt).kids.length : Int) ∧ ∀ i rest, l.drop i = t.flat ++ rest → plainF l d nt i = some ((t.pl nt).flat, i + t.flat.length) := fun nt t ht =>
      ⟨pl_kids t nt _ _ (wfs_mem _ _ _ ks h5 t ht), fun i rest hi => plainF_spec l hl d t (deep + 1) n.f0 nt i rest (wfs_mem _ _ _ ks h5 t ht) (by omega) hi⟩
    rw [Tr.pl]
    by_cases c3 : n.f0 = 3
    · rw [if_pos c3, if_pos c3]
      obtain ⟨t, rfl⟩ := one_kid (ts := ks) (by have := fmB_not n h2 c3; omega)
      rw [flats, flats, List.append_nil] at h
      rw [(hks (!nt) t List.mem_cons_self).2 (i + 1) rest h, pls, flats, flats, List.append_nil, Nat.add_assoc, Nat.add_comm 1]; rfl
    · rw [if_neg c3, if_neg c3]
      by_cases c1 : n.f0 = 1 ∨ n.f0 = 2
      · rw [if_pos c1, if_pos c1, show n.f1.toNat = ks.length by omega]
        have := kidsP_spec l (plainF l d nt) nt (kindOf n.f0 nt) ks [] (i + 1) rest (hks nt) h (by rw [List.length_nil]; omega)
        rw [List.nil_append] at this
        rw [Tr.flat, Nat.add_comm (flats ks).length, ← Nat.add_assoc]
        exact this
      · rw [if_neg c1, if_neg c1, bare_some]
        have : ks = [] := List.eq_nil_of_length_eq_zero (by have := (fmB_leaf n h2 c1 c3).1; omega)
        rw [this, flats]; rfl
end Go.Proofs.YtcljnjnlafkieaaGreatDoorR.CTr
/- Made plain and named: the program and the reference answer alike, for any nodes. -/
namespace Go.Proofs.YtcljnjnlafkieaaGreatDoorR.CTr
open Go Go.RowKit Go.Proofs.YtcljnjnlafkieaaGreatDoorR.PPLA Go.Proofs.YtcljnjnlafkieaaGreatDoorRW.PrintWords Go.Proofs.YtcljnjnlafkieaaGreatDoorRW.PrintLast
theorem flat_pos (t : Tr) : 1 ≤ t.flat.length := by rw [flat_root, List.length_cons]; omega
abbrev BL := List UInt8
theorem ll_lt {a b : BL} (h : a ≤ b) (hne : a ≠ b) : a < b := by
  refine Decidable.byContradiction fun hn => hne ?_
  exact List.le_antisymm h (List.not_lt.1 hn)
theorem comp_inv (zs : List BL) (hs : zs.Pairwise (· ≤ ·)) : ∀ m, m ≤ zs.length → (Lib.compactUpTo zs.toArray m).Pairwise (· < ·) ∧ ∀ x, x ∈ Lib.compactUpTo zs.toArray m ↔ x ∈ zs.take m
  | 0, _ => by
    have : Lib.compactUpTo zs.toArray 0 = [] := rfl
    rw [this]
    exact ⟨List.Pairwise.nil, fun x => by simp⟩
  | m + 1, h => by
    obtain ⟨h1, h2⟩ := comp_inv zs hs m (by omega)
    have hm : m < zs.length := by omega
    have hg : (zs.toArray)[m]! = zs[m] := by rw [getElem!_pos zs.toArray m (by simpa using hm)]; simp
    have ht : zs.take (m + 1) = zs.take m ++ [zs[m]] := by rw [List.take_append_getElem hm]
    have hle : ∀ x ∈ zs.take m, x ≤ zs[m] := fun x hx => by
      have := hs
      rw [← List.take_append_drop m zs] at this
      have := (List.pairwise_append.1 this).2.2 x hx zs[m] (by rw [List.drop_eq_getElem_cons hm]; exact List.mem_cons_self)
      exact this
    rw [Lib.compactUpTo_succ]
    by_cases hk : Lib.keeps zs.toArray m = true
    · rw [if_pos hk, hg]
      refine ⟨?_, fun x => ?_⟩
      · refine List.pairwise_append.2 ⟨h1, List.pairwise_singleton _ _, fun a ha b hb => ?_⟩
        obtain rfl := List.mem_singleton.1 hb
        have ha' := (h2 a).1 ha
        by_cases hm0 : m = 0
        · subst hm0; simp at ha'
        · have hm1 : m - 1 < zs.length := by omega
          have hg1 : (zs.toArray)[m - 1]! = zs[m - 1] := by rw [getElem!_pos zs.toArray (m - 1) (by simpa using hm1)]; simp
          have hne : zs[m] ≠ zs[m - 1] := by
            have := hk
            unfold Lib.keeps at this
            rw [hg, hg1] at this
            rcases of_decide_eq_true this with h | h
            · exact absurd h hm0
            · exact h
          have hal : a ≤ zs[m - 1] := by
            have e : zs.take m = zs.take (m - 1) ++ [zs[m - 1]] := by rw [List.take_append_getElem hm1]; congr 1; omega
            rw [e] at ha'
            rcases List.mem_append.1 ha' with h | h
            · have := hs
              rw [← List.take_append_drop (m - 1) zs] at this
              exact (List.pairwise_append.1 this).2.2 a h zs[m - 1] (by rw [List.drop_eq_getElem_cons hm1]; exact List.mem_cons_self)
            · rw [List.mem_singleton.1 h]; exact List.le_refl _
          refine ll_lt (hle a ha') fun e => ?_
          subst e
          exact hne (List.le_antisymm hal (hle _ (by
            have e : zs.take m = zs.take (m - 1) ++ [zs[m - 1]] := by rw [List.take_append_getElem hm1]; congr 1; omega
            rw [e]; exact List.mem_append_right _ (List.mem_singleton.2 rfl))))
      · rw [ht, List.mem_append, List.mem_append, h2]
    · rw [if_neg hk, List.append_nil]
      refine ⟨h1, fun x => ?_⟩
      rw [h2, ht, List.mem_append]
      refine ⟨Or.inl, fun q => q.elim id fun q => ?_⟩
      have hk2 : ¬ (m = 0 ∨ zs.toArray[m]! ≠ zs.toArray[m - 1]!) := fun q => hk (decide_eq_true q)
      have hm0 : m ≠ 0 := fun e => hk2 (Or.inl e)
      have hm1 : m - 1 < zs.length := by omega
      have hg1 : (zs.toArray)[m - 1]! = zs[m - 1] := by rw [getElem!_pos zs.toArray (m - 1) (by simpa using hm1)]; simp
      have he : zs[m] = zs[m - 1] := by
        rw [← hg, ← hg1]
        exact Decidable.byContradiction fun e => hk2 (Or.inr e)
      have e : zs.take m = zs.take (m - 1) ++ [zs[m - 1]] := by rw [List.take_append_getElem hm1]; congr 1; omega
      rw [List.mem_singleton.1 q, he, e]
      exact List.mem_append_right _ (List.mem_singleton.2 rfl)
theorem rising_uniq : ∀ (xs ys : List BL), xs.Pairwise (· < ·) → ys.Pairwise (· < ·) → (∀ x, x ∈ xs ↔ x ∈ ys) → xs = ys
  | [], [], _, _, _ => rfl
  | [], y :: ys, _, _, h => by have := (h y).2 List.mem_cons_self; cases this
  | x :: xs, [], _, _, h => by have := (h x).1 List.mem_cons_self; cases this
  | x :: xs, y :: ys, hx, hy, h => by
    obtain ⟨hx1, hx2⟩ := List.pairwise_cons.1 hx
    obtain ⟨hy1, hy2⟩ := List.pairwise_cons.1 hy
    have e : x = y := by
      rcases List.mem_cons.1 ((h x).1 List.mem_cons_self) with e | e
      · exact e
      · rcases List.mem_cons.1 ((h y).2 List.mem_cons_self) with e2 | e2
        · exact e2.symm
        · exact absurd (List.lt_trans (hx1 y e2) (hy1 x e)) (List.lt_irrefl _)
    subst e
    have : xs = ys := rising_uniq xs ys hx2 hy2 fun z => by
      constructor
      · intro hz
        rcases List.mem_cons.1 ((h z).1 (List.mem_cons_of_mem _ hz)) with e | e
        · subst e; exact absurd (hx1 z hz) (List.lt_irrefl _)
        · exact e
      · intro hz
        rcases List.mem_cons.1 ((h z).2 (List.mem_cons_of_mem _ hz)) with e | e
        · subst e; exact absurd (hy1 z hz) (List.lt_irrefl _)
        · exact e
    rw [this]
theorem sort_le (l : List BL) : (l.mergeSort fun x y => decide (x ≤ y)).Pairwise (· ≤ ·) := by
  have := List.pairwise_mergeSort (le := fun (x y : BL) => decide (x ≤ y)) (fun a b c h1 h2 => decide_eq_true (List.le_trans (of_decide_eq_true h1) (of_decide_eq_true h2))) (fun a b => by
    rw [Bool.or_eq_true, decide_eq_true_iff, decide_eq_true_iff]; exact List.le_total a b) l
  exact this.imp fun h => of_decide_eq_true h
theorem comp_sort (l : List BL) : (Lib.compact (l.mergeSort fun x y => decide (x ≤ y))).Pairwise (· < ·) ∧ ∀ x, x ∈ Lib.compact (l.mergeSort fun x y => decide (x ≤ y)) ↔ x ∈ l := by
  obtain ⟨h1, h2⟩ := comp_inv (l.mergeSort fun x y => decide (x ≤ y)) (sort_le l) _ (Nat.le_refl _)
  refine ⟨h1, fun x => ?_⟩
  unfold Lib.compact
  rw [h2, List.take_length, List.mem_mergeSort]
def insL (s : BL) : List BL → List BL
  | [] => [s]
  | x :: xs => if s < x then s :: x :: xs else x :: insL s xs
theorem insL_mem (s x : BL) : ∀ xs, x ∈ insL s xs ↔ x = s ∨ x ∈ xs
  | [] => by simp [insL]
  | y :: ys => by
    rw [insL]
    split
    · simp
    · rw [List.mem_cons, insL_mem s x ys, List.mem_cons]
      constructor
      · rintro (h | h | h)
        · exact Or.inr (Or.inl h)
        · exact Or.inl h
        · exact Or.inr (Or.inr h)
      · rintro (h | h | h)
        · exact Or.inr (Or.inl h)
        · exact Or.inl h
        · exact Or.inr (Or.inr h)
theorem insL_rise (s : BL) : ∀ xs : List BL, xs.Pairwise (· < ·) → s ∉ xs → (insL s xs).Pairwise (· < ·)
  | [], _, _ => List.pairwise_singleton _ _
  | x :: xs, h, hn => by
    obtain ⟨h1, h2⟩ := List.pairwise_cons.1 h
    rw [insL]
    split
    · rename_i hlt
      refine List.pairwise_cons.2 ⟨fun z hz => ?_, h⟩
      rcases List.mem_cons.1 hz with rfl | hz
      · exact hlt
      · exact List.lt_trans hlt (h1 z hz)
    · rename_i hlt
      refine List.pairwise_cons.2 ⟨fun z hz => ?_, insL_rise s xs h2 fun q => hn (List.mem_cons_of_mem _ q)⟩
      rcases (insL_mem s z xs).1 hz with rfl | hz
      · exact ll_lt (List.not_lt.1 hlt) fun e => hn (by rw [e]; exact List.mem_cons_self)
      · exact h1 z hz
def Rise (x ns : List ByteArray) : Prop := (rawT x).Pairwise (· < ·) ∧ ∀ z, z ∈ rawT x ↔ z ∈ rawT ns
theorem raw_unraw (l : List BL) : rawT (unrawT l) = l := by
  unfold rawT unrawT; rw [List.map_map]; exact List.map_id'' (fun _ => rfl) l
theorem unraw_raw (l : List ByteArray) : unrawT (rawT l) = l := by
  unfold rawT unrawT; rw [List.map_map]; exact List.map_id'' (fun _ => rfl) l
theorem Rise.uniq {x y ns : List ByteArray} (h : Rise x ns) (h' : Rise y ns) : x = y := by
  have := rising_uniq (rawT x) (rawT y) h.1 h'.1 fun z => (h.2 z).trans (h'.2 z).symm
  rw [← unraw_raw x, this, unraw_raw]
theorem raw_len (x : List ByteArray) : (rawT x).length = x.length := by unfold rawT; rw [List.length_map]
theorem raw_append (x y : List ByteArray) : rawT (x ++ y) = rawT x ++ rawT y := by unfold rawT; rw [List.map_append]
def insB (s : ByteArray) : List ByteArray → List ByteArray
  | [] => [s]
  | x :: xs => if Op.bytesLess s.toList x.toList = true then s :: x :: xs else x :: insB s xs
theorem raw_ins (s : ByteArray) : ∀ xs, rawT (insB s xs) = insL (L s) (rawT xs)
  | [] => rfl
  | x :: xs => by
    rw [insB, show rawT (x :: xs) = L x :: rawT xs from rfl, insL, bytesLess_eq, Lib.toList_data, Lib.toList_data]
    by_cases h : s.data.toList < x.data.toList
    · rw [if_pos (decide_eq_true h), if_pos (show L s < L x from h)]; rfl
    · rw [if_neg (by rw [decide_eq_false h]; exact Bool.false_ne_true), if_neg (show ¬ L s < L x from h), ← raw_ins s xs]; rfl
theorem among_loop (xs : List ByteArray) (s : ByteArray) (hx : xs.length ≤ 1000) : ∀ (m i k : Nat), i + m = xs.length → tollbookref13_among.l0 (k + m + 1) xs s (i : Int) = some (decide (L s ∈ rawT (xs.drop i)))
  | 0, i, k, hi => by
    rw [tollbookref13_among.l0, if_neg (by omega), List.drop_of_length_le (by omega)]; rfl
  | m + 1, i, k, hi => by
    have hlt : i < xs.length := by omega
    have hr := rd_drop xs i hlt
    rw [show k + (m + 1) + 1 = (k + m + 1) + 1 from by omega, tollbookref13_among.l0, if_pos (by omega), if_pos (by omega), wrap_add1 i (by omega), among_loop xs s hx m (i + 1) k (by omega), hr]
    rw [show rawT (rdOf ByteArray.empty xs (i : Int) :: xs.drop (i + 1)) = L (rdOf ByteArray.empty xs (i : Int)) :: rawT (xs.drop (i + 1)) from rfl, Lib.toList_data, Lib.toList_data]
    by_cases h : (rdOf ByteArray.empty xs (i : Int)).data.toList = s.data.toList
    · rw [if_pos h]; exact congrArg some (decide_eq_true (List.mem_cons.2 (Or.inl h.symm))).symm
    · rw [if_neg h]; exact congrArg some (decide_eq_decide.2 ⟨List.mem_cons_of_mem _, fun q => (List.mem_cons.1 q).resolve_left fun e => h e.symm⟩)
theorem among_some (xs : List ByteArray) (s : ByteArray) (hx : xs.length ≤ 1000) (k : Nat) (hk : xs.length + 1 ≤ k) : tollbookref13_among.f k xs s = some (decide (L s ∈ rawT xs)) := by
  obtain ⟨k, rfl⟩ : ∃ j, k = j + xs.length + 1 := ⟨k - xs.length - 1, by omega⟩
  exact among_loop xs s hx xs.length 0 k (by omega)
theorem put_loop (xs : List ByteArray) (s : ByteArray) (hx : xs.length ≤ 1000) : ∀ (m i k : Nat) (acc : List ByteArray), i + m = xs.length → acc.length ≤ i + 1 →
    tollbookref13_put.l0 (k + m + 1) xs s acc true (i : Int) = some (acc ++ xs.drop i) ∧ (acc.length ≤ i → tollbookref13_put.l0 (k + m + 1) xs s acc false (i : Int) = some (acc ++ insB s (xs.drop i)))
  | 0, i, k, acc, hi, ha => by
    refine ⟨?_, fun ha => ?_⟩
    · rw [tollbookref13_put.l0, if_neg (by omega), if_pos rfl, List.drop_of_length_le (by omega), List.append_nil]
    · rw [tollbookref13_put.l0, if_neg (by omega), if_neg Bool.false_ne_true, if_pos (by omega), List.drop_of_length_le (by omega)]; rfl
  | m + 1, i, k, acc, hi, ha => by
    have hlt : i < xs.length := by omega
    have hr := rd_drop xs i hlt
    obtain ⟨y, hy⟩ : ∃ y, rdOf ByteArray.empty xs (i : Int) = y := ⟨_, rfl⟩
    rw [hy] at hr
    rw [show k + (m + 1) + 1 = (k + m + 1) + 1 from by omega]
    refine ⟨?_, fun ha => ?_⟩
    · have := (put_loop xs s hx m (i + 1) k (acc ++ [y]) (by omega) (by rw [List.length_append, List.length_singleton]; omega)).1
      rw [tollbookref13_put.l0, if_pos (by omega), if_pos rfl, if_pos (by omega), if_pos (by omega), wrap_add1 i (by omega), hy, this, hr, List.append_assoc]; rfl
    · rw [tollbookref13_put.l0, if_pos (by omega), if_neg Bool.false_ne_true, if_pos (by omega), hy, wrap_add1 i (by omega), hr, insB]
      by_cases h : Op.bytesLess s.toList y.toList = true
      · rw [if_pos h, if_pos h, if_pos (by omega), Option.bind_some, if_pos (by rw [List.length_append, List.length_singleton]; omega)]
        have := (put_loop xs s hx m (i + 1) k ((acc ++ [s]) ++ [y]) (by omega) (by simp only [List.length_append, List.length_singleton]; omega)).1
        rw [this, List.append_assoc, List.append_assoc]; rfl
      · rw [if_neg h, if_neg h, if_pos (by omega)]
        have := (put_loop xs s hx m (i + 1) k (acc ++ [y]) (by omega) (by rw [List.length_append, List.length_singleton]; omega)).2 (by rw [List.length_append, List.length_singleton]; omega)
        rw [this, List.append_assoc]; rfl
theorem put_some (xs ns : List ByteArray) (s : ByteArray) (hx : xs.length ≤ 1000) (k : Nat) (hk : xs.length + 1 ≤ k) (hr : Rise xs ns) : ∃ r, tollbookref13_put.f k xs s = some r ∧ Rise r (ns ++ [s]) ∧ r.length ≤ xs.length + 1 := by
  rw [tollbookref13_put.f, among_some xs s hx k hk, Option.bind_some]
  have hz : ∀ z, z ∈ rawT (ns ++ [s]) ↔ z = L s ∨ z ∈ rawT xs := fun z => by
    rw [raw_append, List.mem_append, hr.2 z, Or.comm]
    exact or_congr List.mem_singleton Iff.rfl
  by_cases h : L s ∈ rawT xs
  · rw [if_pos (decide_eq_true h)]
    refine ⟨xs, rfl, ⟨hr.1, fun z => ?_⟩, by omega⟩
    rw [hz z]
    exact ⟨Or.inr, fun q => q.elim (fun e => e ▸ h) id⟩
  · rw [if_neg (by rw [decide_eq_false h]; exact Bool.false_ne_true)]
    obtain ⟨k, rfl⟩ : ∃ j, k = j + xs.length + 1 := ⟨k - xs.length - 1, by omega⟩
    have := (put_loop xs s hx xs.length 0 k [] (by omega) (by rw [List.length_nil]; omega)).2 (Nat.le_refl _)
    refine ⟨_, this, ⟨?_, fun z => ?_⟩, ?_⟩
    · rw [List.nil_append, List.drop_zero, raw_ins]; exact insL_rise _ _ hr.1 h
    · rw [List.nil_append, List.drop_zero, raw_ins, insL_mem, hz z]
    · rw [List.nil_append, List.drop_zero, ← raw_len, raw_ins]
      have hl : ∀ ys : List BL, (insL (L s) ys).length = ys.length + 1 := fun ys => by
        induction ys with
        | nil => rfl
        | cons y ys ih =>
          rw [insL]
          split
          · rfl
          · rw [List.length_cons, ih, List.length_cons]
      rw [hl, raw_len]; exact Nat.le_refl _
def namesK (kd : Int) (l : List S45) : List ByteArray := (l.filter fun n => decide (n.f0 = kd)).map fun n => n.f2
theorem names_snoc (kd : Int) (l : List S45) (n : S45) : namesK kd (l ++ [n]) = if n.f0 = kd then namesK kd l ++ [n.f2] else namesK kd l := by
  unfold namesK
  rw [List.filter_append, List.map_append]
  by_cases h : n.f0 = kd
  · rw [if_pos h]; simp [List.filter, h]
  · rw [if_neg h]; simp [List.filter, h]
theorem names_len (kd : Int) (l : List S45) : (namesK kd l).length ≤ l.length := by
  unfold namesK; rw [List.length_map]; exact List.length_filter_le _ _
theorem take_snocN (l : List S45) (i : Nat) (h : i < l.length) : l.take (i + 1) = l.take i ++ [rd_T45 l (i : Int)] := by
  rw [← List.take_append_getElem h]
  unfold rd_T45
  rw [Int.toNat_natCast, List.getD_eq_getElem?_getD, List.getElem?_eq_getElem h]; rfl
theorem refnames_loop (l : List S45) (hl : l.length ≤ 64) : ∀ (m i k : Nat) (x y : List ByteArray), i + m = l.length → Rise x (namesK 4 (l.take i)) → Rise y (namesK 5 (l.take i)) → x.length ≤ i → y.length ≤ i →
    ∃ r q, tollbookref13_Names.l0 (k + 100 + m + 1) l x y (i : Int) = some (r, q, 0) ∧ Rise r (namesK 4 l) ∧ Rise q (namesK 5 l) ∧ r.length ≤ 64 ∧ q.length ≤ 64
  | 0, i, k, x, y, hi, hx, hy, hlx, hly => by
    rw [List.take_of_length_le (by omega)] at hx hy
    exact ⟨x, y, by rw [tollbookref13_Names.l0, if_neg (by omega)], hx, hy, by omega, by omega⟩
  | m + 1, i, k, x, y, hi, hx, hy, hlx, hly => by
    have ht := take_snocN l i (by omega)
    obtain ⟨n, hn⟩ : ∃ n, rd_T45 l (i : Int) = n := ⟨_, rfl⟩
    rw [hn] at ht
    have h4 := names_snoc 4 (l.take i) n
    have h5 := names_snoc 5 (l.take i) n
    rw [← ht] at h4 h5
    rw [show k + 100 + (m + 1) + 1 = (k + 100 + m + 1) + 1 from by omega, tollbookref13_Names.l0, if_pos (by omega), if_pos (by omega), wrap_add1 i (by omega), hn]
    obtain ⟨p, e1, e2, e3⟩ := put_some x _ n.f2 (by omega) (k + 100 + m + 1) (by omega) hx
    obtain ⟨q, g1, g2, g3⟩ := put_some y _ n.f2 (by omega) (k + 100 + m + 1) (by omega) hy
    by_cases c4 : n.f0 = 4
    · rw [if_pos c4] at h4
      rw [if_neg (by omega)] at h5
      rw [if_pos c4, e1, Option.bind_some, if_neg (by omega)]
      exact refnames_loop l hl m (i + 1) k p y (by omega) (by rw [h4]; exact e2) (by rw [h5]; exact hy) (by omega) (by omega)
    · rw [if_neg c4] at h4
      rw [if_neg c4]
      by_cases c5 : n.f0 = 5
      · rw [if_pos c5] at h5
        rw [if_pos c5, g1, Option.bind_some]
        exact refnames_loop l hl m (i + 1) k x q (by omega) (by rw [h4]; exact hx) (by rw [h5]; exact g2) (by omega) (by omega)
      · rw [if_neg c5] at h5
        rw [if_neg c5]
        exact refnames_loop l hl m (i + 1) k x y (by omega) (by rw [h4]; exact hx) (by rw [h5]; exact hy) (by omega) (by omega)
def tidy (l : List ByteArray) : List ByteArray := unrawT (Lib.compact ((rawT l).mergeSort fun x y => decide (x ≤ y)))
theorem tidy_rise (l : List ByteArray) : Rise (tidy l) l := by
  obtain ⟨h1, h2⟩ := comp_sort (rawT l)
  unfold Rise tidy
  rw [raw_unraw]
  exact ⟨h1, h2⟩
theorem names_loop (l : List S45) (hl : l.length ≤ 64) : ∀ (m i k : Nat), i + m = l.length →
    traits_Names.l0 (k + m + 1) (namesK 4 (l.take i)) (namesK 5 (l.take i)) l (l.length : Int) (i : Int) = some (tidy (namesK 4 l), tidy (namesK 5 l), 0)
  | 0, i, k, hi => by
    rw [List.take_of_length_le (by omega), traits_Names.l0, if_neg (by omega)]
    have h4 := names_len 4 l
    have h5 := names_len 5 l
    rw [slices_Sort_string_string.f, if_pos (by omega), Option.bind_some, slices_Sort_string_string.f, if_pos (by omega), Option.bind_some, slices_Compact_string_string.f, Option.bind_some, slices_Compact_string_string.f, Option.bind_some, raw_unraw, raw_unraw]; rfl
  | m + 1, i, k, hi => by
    have ht := take_snocN l i (by omega)
    have ih := names_loop l hl m (i + 1) k (by omega)
    obtain ⟨n, hn⟩ : ∃ n, rd_T45 l (i : Int) = n := ⟨_, rfl⟩
    rw [hn] at ht
    have h4 := names_len 4 (l.take i)
    have h5 := names_len 5 (l.take i)
    rw [List.length_take] at h4 h5
    rw [ht, names_snoc, names_snoc] at ih
    rw [show k + (m + 1) + 1 = (k + m + 1) + 1 from by omega, traits_Names.l0, if_pos (by omega), if_pos (by omega), if_pos (by omega), wrap_add1 i (by omega), hn]
    by_cases c4 : n.f0 = 4
    · rw [if_pos c4, if_neg (show ¬ n.f0 = 5 by omega)] at ih
      rw [if_pos c4, if_pos (by omega)]; exact ih
    · rw [if_neg c4] at ih
      rw [if_neg c4]
      by_cases c5 : n.f0 = 5
      · rw [if_pos c5] at ih
        rw [if_pos c5, if_pos (by omega)]; exact ih
      · rw [if_neg c5] at ih
        rw [if_neg c5]; exact ih
theorem nodeNe (m : S45) : (!(m.f0 == m.f0) || (!(m.f1 == m.f1) || (!(m.f2.toList == m.f2.toList) || (!(m.f3 == m.f3) || (!(m.f4.f0 == m.f4.f0) || !(m.f4.f1 == m.f4.f1)))))) = false := by simp
theorem sameN_loop (xs : List S45) (hx : xs.length ≤ 1000000) : ∀ (m i k : Nat), i + m = xs.length → tollbookkit_SameNodes.l0 (k + m + 1) xs xs (i : Int) = some true
  | 0, i, k, hi => by rw [tollbookkit_SameNodes.l0, if_neg (by omega)]
  | m + 1, i, k, hi => by
    rw [show k + (m + 1) + 1 = (k + m + 1) + 1 from by omega, tollbookkit_SameNodes.l0, if_pos (by omega), if_pos (by omega), if_pos (by omega), if_neg (by rw [nodeNe]; exact Bool.false_ne_true), wrap_add1 i (by omega)]
    exact sameN_loop xs hx m (i + 1) k (by omega)
theorem sameN_some (xs : List S45) (hx : xs.length ≤ 1000000) (k : Nat) (hk : xs.length + 1 ≤ k) : tollbookkit_SameNodes.f k xs xs = some true := by
  obtain ⟨k, rfl⟩ : ∃ j, k = j + xs.length + 1 := ⟨k - xs.length - 1, by omega⟩
  rw [tollbookkit_SameNodes.f, if_pos rfl]
  exact sameN_loop xs hx xs.length 0 k (by omega)
theorem check_cases (l : List S45) (k : Nat) (hk : 6000 ≤ k) (hne : l.length ≠ 0) :
    (∃ t, Tr.wf fmB 1 0 t ∧ l = t.flat ∧ l.length ≤ 64 ∧ traits_Check.f k l = some 0 ∧ tollbookref13_Of.f k l = some (t.root.f0, t.root.f1, t.root.f2, t.root.f3, t.root.f4.f0, t.root.f4.f1, toSs t.kids, true)) ∨
    (traits_Check.f k l = some 131 ∧ ∃ a b c d e f g, tollbookref13_Of.f k l = some (a, b, c, d, e, f, g, false)) := by
  unfold traits_Check.f tollbookref13_Of.f
  rw [if_neg hne]
  by_cases h1 : 64 < l.length
  · rw [if_pos h1, if_pos (show (l.length : Int) > 64 by omega)]; exact Or.inr ⟨rfl, _, _, _, _, _, _, _, rfl⟩
  · rw [if_neg h1, if_neg (show ¬ (l.length : Int) > 64 by omega)]
    have g := grown_spec l (by omega) 16 1 (by omega) (by omega) (by omega) 0 (Nat.zero_le _) k (by omega)
    rw [show ((0 : Nat) : Int) = 0 from rfl] at g
    rcases tree_spec k fmB (formed_some k (by omega)) fmB_kids l 20 1 0 0 (Nat.zero_le _) (by omega) (by omega) with ⟨t, j, e, hw, hd, _, hj⟩ | ⟨j, e, hj, hno⟩
    · rcases g with ⟨m, ts, j2, e2, hw2, hd2, _, hj2⟩ | ⟨e2, hno2⟩
      · have hd0 := hd
        rw [hd] at hd2
        obtain ⟨ht, hr⟩ := flat_uniq fmB _ _ _ _ _ _ _ _ hw hw2 hd2
        have hj12 : l.length - j = l.length - j2 := by
          have := congrArg List.length hr
          rwa [List.length_drop, List.length_drop] at this
        obtain rfl : j = j2 := by omega
        subst ht
        rw [e, e2, Option.bind_some]
        by_cases hjl : j = l.length
        · refine Or.inl ⟨_, hw, ?_, by omega, ?_, ?_⟩
          · rw [List.drop_zero, hjl, List.drop_length, List.append_nil] at hd0; exact hd0
          · show some (if true = true ∧ j = l.length then (0 : Int) else 131) = some 0
            rw [if_pos ⟨rfl, hjl⟩]
          · show some (m.f0, m.f1, m.f2, m.f3, m.f4.f0, m.f4.f1, toSs ts, ((j : Int) == (l.length : Int))) = some (m.f0, m.f1, m.f2, m.f3, m.f4.f0, m.f4.f1, toSs ts, true)
            rw [beq_iff_eq.2 (show (j : Int) = (l.length : Int) by omega)]
        · refine Or.inr ⟨?_, m.f0, m.f1, m.f2, m.f3, m.f4.f0, m.f4.f1, toSs ts, ?_⟩
          · show some (if true = true ∧ j = l.length then (0 : Int) else 131) = some 131
            rw [if_neg (fun q => hjl q.2)]
          · show some (m.f0, m.f1, m.f2, m.f3, m.f4.f0, m.f4.f1, toSs ts, ((j : Int) == (l.length : Int))) = some (m.f0, m.f1, m.f2, m.f3, m.f4.f0, m.f4.f1, toSs ts, false)
            rw [beq_eq_false_iff_ne.2 (show (j : Int) ≠ (l.length : Int) by omega)]
      · exact absurd ⟨t, _, hw, hd⟩ hno2
    · rcases g with ⟨m, ts, j2, e2, hw2, hd2, _, hj2⟩ | ⟨e2, hno2⟩
      · exact absurd ⟨_, _, hw2, hd2⟩ hno
      · rw [e, e2, Option.bind_some]
        refine Or.inr ⟨?_, 0, 0, ⟨#[]⟩, 0, 0, 0, [], ?_⟩
        · show some (if false = true ∧ j = l.length then (0 : Int) else 131) = some 131
          rw [if_neg (fun q => Bool.false_ne_true q.1)]
        · show some ((0 : Int), (0 : Int), (⟨#[]⟩ : ByteArray), (0 : Int), (0 : Int), (0 : Int), ([] : List S51), ((-1 : Int) == (l.length : Int))) = _
          rw [beq_eq_false_iff_ne.2 (show (-1 : Int) ≠ (l.length : Int) by omega)]
theorem check_nil (l : List S45) (k : Nat) (h : l.length = 0) : traits_Check.f k l = some 0 := by
  rw [traits_Check.f, if_pos h]
theorem names_some (l : List S45) (k : Nat) (hk : 6000 ≤ k) : ∃ x y e, traits_Names.f k l = some (x, y, e) ∧ tollbookref13_Names.f k l = some (x, y, e) ∧ x.length ≤ 64 ∧ y.length ≤ 64 := by
  obtain ⟨c, h1, h2⟩ := check_some l k hk
  unfold traits_Names.f tollbookref13_Names.f
  rw [h1, h2, Option.bind_some, Option.bind_some]
  by_cases hc : c = 0
  · rw [if_pos hc, if_pos hc]
    have hl : l.length ≤ 64 := by
      rw [hc, traits_Check.f] at h1
      by_cases h0 : l.length = 0
      · omega
      · rw [if_neg h0] at h1
        by_cases h3 : 64 < l.length
        · rw [if_pos h3] at h1; cases h1
        · omega
    obtain ⟨k, rfl⟩ : ∃ j, k = j + 100 + l.length + 1 := ⟨k - 100 - l.length - 1, by omega⟩
    have e0 : Rise ([] : List ByteArray) (namesK 4 (l.take 0)) := ⟨List.Pairwise.nil, fun z => Iff.rfl⟩
    have f0 : Rise ([] : List ByteArray) (namesK 5 (l.take 0)) := ⟨List.Pairwise.nil, fun z => Iff.rfl⟩
    obtain ⟨r, q, g1, g2, g3, g4, g5⟩ := refnames_loop l hl l.length 0 k [] [] (by omega) e0 f0 (Nat.le_refl _) (Nat.le_refl _)
    have p1 := names_loop l hl l.length 0 (k + 100) (by omega)
    have hr : tidy (namesK 4 l) = r := (tidy_rise _).uniq g2
    have hq : tidy (namesK 5 l) = q := (tidy_rise _).uniq g3
    rw [hr, hq] at p1
    exact ⟨r, q, 0, p1, g1, g4, g5⟩
  · rw [if_neg hc, if_neg hc]
    have hc131 : c = 131 := by
      rw [traits_Check.f] at h1
      by_cases h0 : l.length = 0
      · rw [if_pos h0] at h1; exact absurd (Option.some.inj h1).symm hc
      · rw [if_neg h0] at h1
        by_cases h3 : 64 < l.length
        · rw [if_pos h3] at h1; exact (Option.some.inj h1).symm
        · rw [if_neg h3] at h1
          obtain ⟨x, _, hx⟩ := Option.map_eq_some_iff.mp h1
          split at hx
          · exact absurd hx.symm hc
          · exact hx.symm
    rw [hc131]
    exact ⟨[], [], 131, rfl, rfl, Nat.zero_le _, Nat.zero_le _⟩
end Go.Proofs.YtcljnjnlafkieaaGreatDoorR.CTr
/- Conditions as trees: what a tree evaluates to; the program's walk over the nodes comes to it; made plain it holds where it did, stays a condition, and stays when it is made plain again. -/
namespace Go.Proofs.YtcljnjnlafkieaaGreatDoorR.CTr
open Go Go.RowKit Go.Proofs.YtcljnjnlafkieaaGreatDoorR.PPLA Go.Proofs.YtcljnjnlafkieaaGreatDoorRW.PrintWords Go.Proofs.YtcljnjnlafkieaaGreatDoorRW.PrintLast
section
variable (T : S45 → Bool)
mutual
def Tr.ev : Tr → Bool
  | .mk n ks => if n.f0 = 1 then evAny ks else if n.f0 = 2 then evAll ks else if n.f0 = 3 then !evAll ks else T n
def evAny : List Tr → Bool
  | [] => false
  | t :: ts => t.ev || evAny ts
def evAll : List Tr → Bool
  | [] => true
  | t :: ts => t.ev && evAll ts
end
def evN : List Tr → Nat
  | [] => 0
  | t :: ts => (if t.ev T = true then 1 else 0) + evN ts
theorem evN_le : ∀ ts : List Tr, evN T ts ≤ ts.length
  | [] => Nat.le_refl _
  | t :: ts => by have := evN_le ts; rw [evN, List.length_cons]; split <;> omega
theorem evN_all : ∀ ts : List Tr, evAll T ts = decide (evN T ts = ts.length)
  | [] => by rw [evAll, evN]; rfl
  | t :: ts => by
    have h := evN_le T ts
    rw [evAll, evN, evN_all ts, List.length_cons]
    cases t.ev T with
    | true => rw [if_pos rfl, Bool.true_and]; exact decide_eq_decide.2 (by omega)
    | false => rw [if_neg Bool.false_ne_true, Bool.false_and]; exact (decide_eq_false (by omega)).symm
theorem evN_any : ∀ ts : List Tr, evAny T ts = decide (0 < evN T ts)
  | [] => by rw [evAny, evN]; rfl
  | t :: ts => by
    rw [evAny, evN, evN_any ts]
    cases t.ev T with
    | true => rw [if_pos rfl, Bool.true_or]; exact (decide_eq_true (by omega)).symm
    | false => rw [if_neg Bool.false_ne_true, Bool.false_or]; exact decide_eq_decide.2 (by omega)
theorem kidsH_spec (l : List S45) (P : Nat → Option (Bool × Nat)) : ∀ (ts : List Tr) (s i : Nat) (rest : List S45),
    (∀ t ∈ ts, ∀ i rest, l.drop i = t.flat ++ rest → P i = some (t.ev T, i + t.flat.length)) → l.drop i = flats ts ++ rest → kidsH P ts.length s i = some (s + evN T ts, i + (flats ts).length)
  | [], s, i, rest, _, _ => by simp only [evN, show flats [] = [] from by rw [flats], kidsH, List.length_nil, Nat.add_zero]
  | t :: ts, s, i, rest, hP, hd => by
    rw [flats, List.append_assoc] at hd
    have hdj : l.drop (i + t.flat.length) = flats ts ++ rest := by rw [← List.drop_drop, hd, List.drop_left]
    rw [List.length_cons, kidsH, hP t List.mem_cons_self i _ hd, Option.bind_some, kidsH_spec l P ts _ _ rest (fun x hx => hP x (List.mem_cons_of_mem _ hx)) hdj,
      show (flats (t :: ts)).length = t.flat.length + (flats ts).length from by rw [flats, List.length_append], evN, Nat.add_assoc]
    simp only []
    split <;> congr 2 <;> omega
theorem fmB_group (m : S45) (h : fmB m = true) (h1 : m.f0 = 1 ∨ m.f0 = 2) : 2 ≤ m.f1 := by
  unfold fmB at h
  rw [if_pos h1] at h
  simp only [Bool.and_eq_true, decide_eq_true_iff] at h
  exact h.2
theorem holdsF_spec (P : S45 → Option Bool) (hP : ∀ m, fmB m = true → (m.f0 = 4 ∨ m.f0 = 5 ∨ m.f0 = 6 ∨ m.f0 = 7) → P m = some (T m)) (l : List S45) : ∀ (d : Nat) (t : Tr) (deep under : Int) (i : Nat) (rest : List S45), t.wf fmB deep under → 17 ≤ (d : Int) + deep → l.drop i = t.flat ++ rest → holdsF P l d i = some (t.ev T, i + t.flat.length)
  | 0, .mk n ks, deep, under, i, rest, hw, hd, _ => by rw [Tr.wf] at hw; omega
  | d + 1, .mk n ks, deep, under, i, rest, hw, hd, h => by
    rw [Tr.wf] at hw
    obtain ⟨h1, h2, h3, h4, h5⟩ := hw
    have hlt : i < l.length := by
      refine Nat.lt_of_not_le fun q => ?_
      rw [List.drop_of_length_le q, Tr.flat] at h
      cases h
    rw [rd_dropT l i hlt, Tr.flat, List.cons_append] at h
    obtain ⟨hn, h⟩ := List.cons.inj h
    rw [holdsF, if_pos hlt, hn, Tr.flat, List.length_cons, Nat.add_comm (flats ks).length, ← Nat.add_assoc]
    have hks : ∀ t ∈ ks, ∀ i rest, l.drop i = t.flat ++ rest → holdsF P l d i = some (t.ev T, i + t.flat.length) := fun t ht i rest hi =>
      holdsF_spec P hP l d t (deep + 1) n.f0 i rest (wfs_mem _ _ _ ks h5 t ht) (by omega) hi
    rw [Tr.ev]
    by_cases c1 : n.f0 = 1 ∨ n.f0 = 2
    · have h2n := fmB_group n h2 c1
      rw [if_pos c1, show n.f1.toNat = ks.length by omega, kidsH_spec T l _ ks 0 (i + 1) rest hks h, Option.map_some, Nat.zero_add, evN_any, evN_all]
      simp only []
      congr 2
      rcases c1 with c | c
      · rw [if_pos c, decide_eq_true c, Bool.true_and]
        by_cases q : 0 < evN T ks
        · rw [decide_eq_true (show (0 : Int) < (evN T ks : Int) by omega), Bool.or_true, decide_eq_true q]
        · rw [decide_eq_false (show ¬ (0 : Int) < (evN T ks : Int) by omega), Bool.or_false, decide_eq_false q]; exact decide_eq_false (by omega)
      · rw [if_neg (by omega), if_pos c, decide_eq_false (show ¬ n.f0 = 1 by omega), Bool.false_and, Bool.or_false]
        exact decide_eq_decide.2 (by omega)
    · rw [if_neg c1, if_neg (show ¬ n.f0 = 1 from fun q => c1 (Or.inl q)), if_neg (show ¬ n.f0 = 2 from fun q => c1 (Or.inr q))]
      by_cases c3 : n.f0 = 3
      · rw [if_pos c3, if_pos c3]
        obtain ⟨t, rfl⟩ := one_kid (ts := ks) (by have := fmB_not n h2 c3; omega)
        rw [flats, flats, List.append_nil] at h ⊢
        rw [hks t List.mem_cons_self (i + 1) rest h, Option.map_some, evAll, evAll, Bool.and_true]
      · rw [if_neg c3, if_neg c3, hP n h2 (fmB_leaf n h2 c1 c3).2]
        have : ks = [] := List.eq_nil_of_length_eq_zero (by have := (fmB_leaf n h2 c1 c3).1; omega)
        rw [this, flats]; rfl
def Turns : Prop := ∀ m : S45, fmB m = true → (m.f0 = 6 ∨ m.f0 = 7) → T ⟨m.f0, m.f1, m.f2, opp m.f3, m.f4⟩ = !T m
theorem any_merge : ∀ ps : List Tr, evAny T (merge 1 ps) = evAny T ps
  | [] => by rw [merge]
  | .mk n ks :: ps => by
    have app : ∀ xs ys : List Tr, evAny T (xs ++ ys) = (evAny T xs || evAny T ys) := fun xs ys => by
      induction xs with
      | nil => rw [List.nil_append, evAny, Bool.false_or]
      | cons x xs ih => rw [List.cons_append, evAny, evAny, ih, Bool.or_assoc]
    rw [merge, app, any_merge ps, evAny]
    congr 1
    by_cases h : n.f0 = 1
    · rw [if_pos (show (Tr.mk n ks).root.f0 = 1 from h), Tr.ev, if_pos h]; rfl
    · rw [if_neg (show ¬ (Tr.mk n ks).root.f0 = 1 from h), evAny, evAny, Bool.or_false]
theorem all_merge : ∀ ps : List Tr, evAll T (merge 2 ps) = evAll T ps
  | [] => by rw [merge]
  | .mk n ks :: ps => by
    have app : ∀ xs ys : List Tr, evAll T (xs ++ ys) = (evAll T xs && evAll T ys) := fun xs ys => by
      induction xs with
      | nil => rw [List.nil_append, evAll, Bool.true_and]
      | cons x xs ih => rw [List.cons_append, evAll, evAll, ih, Bool.and_assoc]
    rw [merge, app, all_merge ps, evAll]
    congr 1
    by_cases h : n.f0 = 2
    · rw [if_pos (show (Tr.mk n ks).root.f0 = 2 from h), Tr.ev, if_neg (by omega), if_pos h]; rfl
    · rw [if_neg (show ¬ (Tr.mk n ks).root.f0 = 2 from h), evAll, evAll, Bool.and_true]
mutual
theorem pl_ev (hT : Turns T) : ∀ (t : Tr) (nt : Bool) (a b : Int), t.wf fmB a b → (t.pl nt).ev T = (nt ^^ t.ev T)
  | .mk n ks, nt, a, b, hw => by
    rw [Tr.wf] at hw
    obtain ⟨i1, i2, i3, i4⟩ := pls_ev hT ks _ _ hw.2.2.2.2
    rw [Tr.pl]
    by_cases h3 : n.f0 = 3
    · rw [if_pos h3, Tr.ev, if_neg (by omega), if_neg (by omega), if_pos h3]
      have h1 : ks.length = 1 := by have := fmB_not n hw.2.1 h3; have := hw.2.2.2.1; omega
      cases ks with
      | nil => cases h1
      | cons t ts =>
        obtain rfl : ts = [] := List.eq_nil_of_length_eq_zero (by simpa using h1)
        simp only [pls, evAll, Bool.and_true] at i1 i3 ⊢
        simp only [evAny, Bool.or_false] at i3
        show (t.pl (!nt)).ev T = _
        cases nt
        · rw [show (!false) = true from rfl, i3, Bool.false_xor]
        · rw [show (!true) = false from rfl, i1, Bool.true_xor, Bool.not_not]
    · rw [if_neg h3]
      by_cases h12 : n.f0 = 1 ∨ n.f0 = 2
      · rw [if_pos h12]
        cases nt
        · rcases h12 with h | h
          · rw [show kindOf n.f0 false = 1 from h, Tr.ev, if_pos (show (groupN 1 _).f0 = 1 from rfl), any_merge, Tr.ev, if_pos h, i2, Bool.false_xor]
          · rw [show kindOf n.f0 false = 2 from h, Tr.ev, if_neg (show ¬ (groupN 2 _).f0 = 1 from by show ¬ (2 : Int) = 1; decide), if_pos (show (groupN 2 _).f0 = 2 from rfl), all_merge, Tr.ev, if_neg (by omega), if_pos h, i1, Bool.false_xor]
        · rcases h12 with h | h
          · rw [show kindOf n.f0 true = 2 from by show 3 - n.f0 = 2; omega, Tr.ev, if_neg (show ¬ (groupN 2 _).f0 = 1 from by show ¬ (2 : Int) = 1; decide), if_pos (show (groupN 2 _).f0 = 2 from rfl), all_merge, Tr.ev, if_pos h, i3, Bool.true_xor]
          · rw [show kindOf n.f0 true = 1 from by show 3 - n.f0 = 1; omega, Tr.ev, if_pos (show (groupN 1 _).f0 = 1 from rfl), any_merge, Tr.ev, if_neg (by omega), if_pos h, i4, Bool.true_xor]
      · rw [if_neg h12]
        have hl := fmB_leaf n hw.2.1 h12 h3
        rw [Tr.ev, if_neg (fun q => h12 (Or.inl q)), if_neg (fun q => h12 (Or.inr q)), if_neg h3]
        unfold leafT
        cases nt
        · rw [if_neg Bool.false_ne_true, Tr.ev, if_neg (fun q => h12 (Or.inl q)), if_neg (fun q => h12 (Or.inr q)), if_neg h3, Bool.false_xor]
        · rw [if_pos rfl, Bool.true_xor]
          by_cases h6 : n.f0 = 6 ∨ n.f0 = 7
          · rw [if_pos h6, Tr.ev, if_neg (show ¬ n.f0 = 1 from fun q => h12 (Or.inl q)), if_neg (show ¬ n.f0 = 2 from fun q => h12 (Or.inr q)), if_neg (show ¬ n.f0 = 3 from h3)]
            exact hT n hw.2.1 h6
          · rw [if_neg h6, Tr.ev, if_neg (show ¬ (3 : Int) = 1 by decide), if_neg (show ¬ (3 : Int) = 2 by decide), if_pos (show (3 : Int) = 3 from rfl), evAll, evAll, Bool.and_true, Tr.ev, if_neg (fun q => h12 (Or.inl q)), if_neg (fun q => h12 (Or.inr q)), if_neg h3]
theorem pls_ev (hT : Turns T) : ∀ (ts : List Tr) (a b : Int), wfs fmB a b ts → evAll T (pls ts false) = evAll T ts ∧ evAny T (pls ts false) = evAny T ts ∧ evAll T (pls ts true) = !evAny T ts ∧ evAny T (pls ts true) = !evAll T ts
  | [], a, b, _ => by rw [pls, pls, evAll, evAny]; exact ⟨rfl, rfl, rfl, rfl⟩
  | t :: ts, a, b, hw => by
    rw [wfs] at hw
    obtain ⟨i1, i2, i3, i4⟩ := pls_ev hT ts a b hw.2
    have f := pl_ev hT t false a b hw.1
    have g := pl_ev hT t true a b hw.1
    rw [Bool.false_xor] at f
    rw [Bool.true_xor] at g
    rw [pls, pls, evAll, evAny, evAll, evAny, evAll, evAny, i1, i2, i3, i4, f, g]
    exact ⟨rfl, rfl, by rw [Bool.not_or], by rw [Bool.not_and]⟩
end
end
end Go.Proofs.YtcljnjnlafkieaaGreatDoorR.CTr
/- Conditions made plain: they stay conditions, with Nots above traits alone, name what they named, and stay when made plain again. -/
namespace Go.Proofs.YtcljnjnlafkieaaGreatDoorR.CTr
open Go Go.RowKit Go.Proofs.YtcljnjnlafkieaaGreatDoorR.PPLA Go.Proofs.YtcljnjnlafkieaaGreatDoorRW.PrintWords Go.Proofs.YtcljnjnlafkieaaGreatDoorRW.PrintLast
theorem trait_ne (a : Int) (h : a = 4 ∨ a = 5) : ¬ (a = 1 ∨ a = 2) ∧ ¬ a = 3 ∧ ¬ (a = 6 ∨ a = 7) := by omega
def notN : S45 := ⟨3, 1, ⟨#[]⟩, 0, ⟨0, 0⟩⟩
mutual
theorem wf_mono (F : S45 → Bool) : ∀ (t : Tr) (a a' u : Int), a' ≤ a → t.wf F a u → t.wf F a' u
  | .mk n ks, a, a', u, h, hw => by
    rw [Tr.wf] at hw ⊢
    exact ⟨by omega, hw.2.1, hw.2.2.1, hw.2.2.2.1, wfs_mono F ks _ _ _ (by omega) hw.2.2.2.2⟩
theorem wfs_mono (F : S45 → Bool) : ∀ (ts : List Tr) (a a' u : Int), a' ≤ a → wfs F a u ts → wfs F a' u ts
  | [], a, a', u, h, _ => by rw [wfs]; trivial
  | t :: ts, a, a', u, h, hw => by
    rw [wfs] at hw ⊢
    exact ⟨wf_mono F t a a' u h hw.1, wfs_mono F ts a a' u h hw.2⟩
end
theorem wfs_append (F : S45 → Bool) (a u : Int) : ∀ (xs ys : List Tr), wfs F a u xs → wfs F a u ys → wfs F a u (xs ++ ys)
  | [], _, _, h => h
  | x :: xs, ys, h, h' => by
    rw [wfs] at h
    rw [List.cons_append, wfs]
    exact ⟨h.1, wfs_append F a u xs ys h.2 h'⟩
theorem merge_wf (kind : Int) (hk : kind = 1 ∨ kind = 2) (d : Int) : ∀ ps : List Tr, (∀ p ∈ ps, p.wf fmB d 0) → wfs fmB d kind (merge kind ps) ∧ ps.length ≤ (merge kind ps).length
  | [], _ => by rw [merge, wfs]; exact ⟨trivial, Nat.le_refl _⟩
  | .mk n ks :: ps, h => by
    obtain ⟨h1, h2⟩ := merge_wf kind hk d ps fun p hp => h p (List.mem_cons_of_mem _ hp)
    have hp := h _ List.mem_cons_self
    rw [merge, List.length_append, List.length_cons]
    by_cases hc : n.f0 = kind
    · rw [if_pos (show (Tr.mk n ks).root.f0 = kind from hc)]
      have hw := hp
      rw [Tr.wf] at hw
      have h2n := fmB_group n hw.2.1 (by rw [hc]; exact hk)
      refine ⟨wfs_append _ _ _ _ _ (wfs_mono fmB ks (d + 1) d kind (by omega) (by rw [← hc]; exact hw.2.2.2.2)) h1, ?_⟩
      have : (Tr.mk n ks).kids.length = ks.length := rfl
      have := hw.2.2.2.1
      omega
    · rw [if_neg (show ¬ (Tr.mk n ks).root.f0 = kind from hc)]
      refine ⟨wfs_append _ _ _ _ _ (by rw [wfs, wfs]; exact ⟨(wf_zero d kind n ks).2 ⟨hp, fun q => hc q.1⟩, trivial⟩) h1, ?_⟩
      rw [List.length_singleton]; omega
theorem fmB_groupN (kind : Int) (hk : kind = 1 ∨ kind = 2) (n : Nat) (hn : 2 ≤ n) : fmB (groupN kind n) = true := by
  unfold fmB
  rw [if_pos (show (groupN kind n).f0 = 1 ∨ (groupN kind n).f0 = 2 from hk), decide_eq_true (show (2 : Int) ≤ (groupN kind n).f1 by show (2 : Int) ≤ (n : Int); omega)]
  rfl
theorem fmB_notN : fmB notN = true := by
  unfold fmB notN
  rw [if_neg (by show ¬ ((3 : Int) = 1 ∨ (3 : Int) = 2); omega), if_pos rfl]
  rfl
theorem fmB_opp (m : S45) (h : fmB m = true) (h6 : m.f0 = 6 ∨ m.f0 = 7) : fmB ⟨m.f0, m.f1, m.f2, opp m.f3, m.f4⟩ = true := by
  have ho : 1 ≤ opp m.f3 ∧ opp m.f3 ≤ 4 := by
    unfold opp
    split
    · omega
    · split
      · omega
      · split <;> omega
  have n1 : ¬ (m.f0 = 1 ∨ m.f0 = 2) := by omega
  have n2 : ¬ m.f0 = 3 := by omega
  have n3 : ¬ (m.f0 = 4 ∨ m.f0 = 5) := by omega
  unfold fmB at h ⊢
  rw [if_neg n1, if_neg n2, if_neg n3, if_pos h6] at h
  rw [if_neg n1, if_neg n2, if_neg n3, if_pos h6]
  simp only [Bool.and_eq_true, decide_eq_true_iff] at h ⊢
  exact ⟨h.1, h.2.1, ho.1, ho.2, h.2.2.2.2⟩
def off (nt : Bool) : Int := if nt = true then 1 else 0
theorem off_range (nt : Bool) : 0 ≤ off nt ∧ off nt ≤ 1 := by unfold off; split <;> omega
theorem kindOf_range (a : Int) (nt : Bool) (h : a = 1 ∨ a = 2) : kindOf a nt = 1 ∨ kindOf a nt = 2 := by unfold kindOf; split <;> omega
mutual
theorem pl_wf : ∀ (t : Tr) (nt : Bool) (a b : Int), t.wf fmB a b → (t.pl nt).wf fmB (a - off nt) 0
  | .mk n ks, nt, a, b, hw => by
    rw [Tr.wf] at hw
    obtain ⟨h1, h2, h3, h4, h5⟩ := hw
    have hr := off_range nt
    rw [Tr.pl]
    by_cases c3 : n.f0 = 3
    · rw [if_pos c3]
      have hl : ks.length = 1 := by have := fmB_not n h2 c3; omega
      have ih := pls_wf ks (!nt) _ _ h5
      cases ks with
      | nil => cases hl
      | cons t ts =>
        have ih1 := ih (t.pl (!nt)) (by rw [pls]; exact List.mem_cons_self)
        rw [pls]
        refine wf_mono _ _ _ _ _ ?_ ih1
        cases nt
        · show a - 0 ≤ a + 1 - 1; omega
        · show a - 1 ≤ a + 1 - 0; omega
    · rw [if_neg c3]
      by_cases c1 : n.f0 = 1 ∨ n.f0 = 2
      · rw [if_pos c1]
        have hk := kindOf_range n.f0 nt c1
        obtain ⟨m1, m2⟩ := merge_wf (kindOf n.f0 nt) hk (a + 1 - off nt) (pls ks nt) (pls_wf ks nt _ _ h5)
        have h2n := fmB_group n h2 c1
        rw [pls_len] at m2
        rw [Tr.wf]
        refine ⟨by omega, fmB_groupN _ hk _ (by omega), fun q => ?_, rfl, ?_⟩
        · have : kindOf n.f0 nt = 0 := q.1
          omega
        · rw [show a - off nt + 1 = a + 1 - off nt by omega]; exact m1
      · rw [if_neg c1]
        have hl := fmB_leaf n h2 c1 c3
        unfold leafT
        by_cases hn : nt = true
        · rw [if_pos hn]
          by_cases h6 : n.f0 = 6 ∨ n.f0 = 7
          · rw [if_pos h6, Tr.wf, wfs]
            exact ⟨by omega, fmB_opp n h2 h6, fun q => by have : n.f0 = 0 := q.1; omega, by have := hl.1; show (0 : Int) = n.f1; omega, trivial⟩
          · rw [if_neg h6, Tr.wf, wfs, wfs, Tr.wf, wfs]
            have : off nt = 1 := by unfold off; rw [if_pos hn]
            exact ⟨by omega, fmB_notN, fun q => by have := q.1; revert this; decide, rfl, ⟨by omega, h2, fun q => c3 q.1, by have := hl.1; show (0 : Int) = n.f1; omega, trivial⟩, trivial⟩
        · rw [if_neg hn, Tr.wf, wfs]
          exact ⟨by omega, h2, fun q => fmB_zero n h2 q.1, by have := hl.1; show (0 : Int) = n.f1; omega, trivial⟩
theorem pls_wf : ∀ (ts : List Tr) (nt : Bool) (a b : Int), wfs fmB a b ts → ∀ p ∈ pls ts nt, p.wf fmB (a - off nt) 0
  | [], nt, a, b, _, p, hp => by rw [pls] at hp; cases hp
  | t :: ts, nt, a, b, hw, p, hp => by
    rw [wfs] at hw
    rw [pls] at hp
    rcases List.mem_cons.1 hp with rfl | hp
    · exact pl_wf t nt a b hw.1
    · exact pls_wf ts nt a b hw.2 p hp
end
mutual
def Tr.isPl : Tr → Prop
  | .mk n ks => (n.f0 = 3 → n = notN ∧ ∃ m, ks = [.mk m []] ∧ (m.f0 = 4 ∨ m.f0 = 5)) ∧ (n.f0 = 1 ∨ n.f0 = 2 → n = groupN n.f0 ks.length ∧ arePl ks ∧ ∀ k ∈ ks, k.root.f0 ≠ n.f0) ∧ (n.f0 ≠ 1 → n.f0 ≠ 2 → n.f0 ≠ 3 → ks = [])
def arePl : List Tr → Prop
  | [] => True
  | t :: ts => t.isPl ∧ arePl ts
end
theorem arePl_append : ∀ xs ys : List Tr, arePl xs → arePl ys → arePl (xs ++ ys)
  | [], _, _, h => h
  | x :: xs, ys, h, h' => by
    rw [arePl] at h
    rw [List.cons_append, arePl]
    exact ⟨h.1, arePl_append xs ys h.2 h'⟩
theorem merge_pl (kind : Int) (hk : kind = 1 ∨ kind = 2) : ∀ ps : List Tr, arePl ps → arePl (merge kind ps) ∧ ∀ k ∈ merge kind ps, k.root.f0 ≠ kind
  | [], _ => by rw [merge, arePl]; exact ⟨trivial, fun k hk => by cases hk⟩
  | .mk n ks :: ps, h => by
    rw [arePl] at h
    obtain ⟨h1, h2⟩ := merge_pl kind hk ps h.2
    rw [merge]
    by_cases hc : n.f0 = kind
    · rw [if_pos (show (Tr.mk n ks).root.f0 = kind from hc)]
      have hp := h.1
      rw [Tr.isPl] at hp
      obtain ⟨_, q2, q3⟩ := hp.2.1 (by rw [hc]; exact hk)
      refine ⟨arePl_append _ _ q2 h1, fun k hk => ?_⟩
      rcases List.mem_append.1 hk with hk | hk
      · rw [← hc]; exact q3 k hk
      · exact h2 k hk
    · rw [if_neg (show ¬ (Tr.mk n ks).root.f0 = kind from hc)]
      refine ⟨arePl_append _ _ (by rw [arePl, arePl]; exact ⟨h.1, trivial⟩) h1, fun k hk => ?_⟩
      rcases List.mem_append.1 hk with hk | hk
      · rw [List.mem_singleton.1 hk]; exact hc
      · exact h2 k hk
theorem leaf_isPl (n : S45) (h1 : ¬ (n.f0 = 1 ∨ n.f0 = 2)) (h3 : ¬ n.f0 = 3) : (Tr.mk n []).isPl := by
  rw [Tr.isPl]
  exact ⟨fun q => absurd q h3, fun q => absurd q h1, fun _ _ _ => rfl⟩
mutual
theorem pl_isPl : ∀ (t : Tr) (nt : Bool) (a b : Int), t.wf fmB a b → (t.pl nt).isPl
  | .mk n ks, nt, a, b, hw => by
    rw [Tr.wf] at hw
    rw [Tr.pl]
    by_cases c3 : n.f0 = 3
    · rw [if_pos c3]
      have hl : ks.length = 1 := by have := fmB_not n hw.2.1 c3; have := hw.2.2.2.1; omega
      have ih := pls_isPl ks (!nt) _ _ hw.2.2.2.2
      cases ks with
      | nil => cases hl
      | cons t ts =>
        rw [pls, arePl] at ih
        rw [pls]; exact ih.1
    · rw [if_neg c3]
      by_cases c1 : n.f0 = 1 ∨ n.f0 = 2
      · rw [if_pos c1]
        have hk := kindOf_range n.f0 nt c1
        obtain ⟨m1, m2⟩ := merge_pl (kindOf n.f0 nt) hk (pls ks nt) (pls_isPl ks nt _ _ hw.2.2.2.2)
        rw [Tr.isPl]
        exact ⟨fun q => by have : kindOf n.f0 nt = 3 := q; omega, fun _ => ⟨rfl, m1, m2⟩, fun q1 q2 _ => hk.elim (fun q => absurd q q1) (fun q => absurd q q2)⟩
      · rw [if_neg c1]
        have hl := fmB_leaf n hw.2.1 c1 c3
        unfold leafT
        by_cases hn : nt = true
        · rw [if_pos hn]
          by_cases h6 : n.f0 = 6 ∨ n.f0 = 7
          · rw [if_pos h6]; exact leaf_isPl _ c1 c3
          · rw [if_neg h6, Tr.isPl]
            exact ⟨fun _ => ⟨rfl, n, rfl, by omega⟩, fun q => by have : (3 : Int) = 1 ∨ (3 : Int) = 2 := q; omega, fun _ _ q => absurd rfl q⟩
        · rw [if_neg hn]; exact leaf_isPl n c1 c3
theorem pls_isPl : ∀ (ts : List Tr) (nt : Bool) (a b : Int), wfs fmB a b ts → arePl (pls ts nt)
  | [], nt, a, b, _ => by rw [pls, arePl]; trivial
  | t :: ts, nt, a, b, hw => by
    rw [wfs] at hw
    rw [pls, arePl]
    exact ⟨pl_isPl t nt a b hw.1, pls_isPl ts nt a b hw.2⟩
end
theorem merge_none (kind : Int) : ∀ ps : List Tr, (∀ k ∈ ps, k.root.f0 ≠ kind) → merge kind ps = ps
  | [], _ => by rw [merge]
  | p :: ps, h => by
    rw [merge, if_neg (h p List.mem_cons_self), merge_none kind ps fun k hk => h k (List.mem_cons_of_mem _ hk)]; rfl
mutual
theorem pl_fix : ∀ (t : Tr), t.isPl → t.pl false = t
  | .mk n ks, h => by
    rw [Tr.isPl] at h
    rw [Tr.pl]
    by_cases c3 : n.f0 = 3
    · obtain ⟨e, m, rfl, hm⟩ := h.1 c3
      rw [if_pos c3, pls]
      show (Tr.mk m []).pl true = _
      obtain ⟨n1, n3, n6⟩ := trait_ne m.f0 hm
      rw [Tr.pl, if_neg n3, if_neg n1]
      unfold leafT
      rw [if_pos rfl, if_neg n6, e]; rfl
    · rw [if_neg c3]
      by_cases c1 : n.f0 = 1 ∨ n.f0 = 2
      · obtain ⟨e, q2, q3⟩ := h.2.1 c1
        rw [if_pos c1, pls_fix ks q2, show kindOf n.f0 false = n.f0 from rfl, merge_none _ ks q3, ← e]
      · rw [if_neg c1, h.2.2 (fun q => c1 (Or.inl q)) (fun q => c1 (Or.inr q)) c3]; rfl
theorem pls_fix : ∀ (ts : List Tr), arePl ts → pls ts false = ts
  | [], _ => by rw [pls]
  | t :: ts, h => by
    rw [arePl] at h
    rw [pls, pl_fix t h.1, pls_fix ts h.2]
end
def singleL : List S45 → Prop
  | [] => True
  | n :: r => (n.f0 = 3 → ∃ m r', r = m :: r' ∧ (m.f0 = 4 ∨ m.f0 = 5)) ∧ singleL r
theorem single_append : ∀ xs ys : List S45, singleL xs → singleL ys → singleL (xs ++ ys)
  | [], _, _, h => h
  | x :: xs, ys, h, h' => by
    rw [singleL] at h
    rw [List.cons_append, singleL]
    refine ⟨fun q => ?_, single_append xs ys h.2 h'⟩
    obtain ⟨m, r', e, hm⟩ := h.1 q
    exact ⟨m, r' ++ ys, by rw [e]; rfl, hm⟩
mutual
theorem pl_single : ∀ (t : Tr), t.isPl → singleL t.flat
  | .mk n ks, h => by
    rw [Tr.isPl] at h
    rw [Tr.flat]
    by_cases c3 : n.f0 = 3
    · obtain ⟨e, m, rfl, hm⟩ := h.1 c3
      rw [flats, Tr.flat, flats, singleL]
      refine ⟨fun _ => ⟨m, [], rfl, hm⟩, ?_⟩
      show singleL [m]
      rw [singleL, singleL]
      exact ⟨fun q => absurd q (trait_ne m.f0 hm).2.1, trivial⟩
    · by_cases c1 : n.f0 = 1 ∨ n.f0 = 2
      · rw [singleL]
        exact ⟨fun q => absurd q c3, pls_single ks (h.2.1 c1).2.1⟩
      · rw [h.2.2 (fun q => c1 (Or.inl q)) (fun q => c1 (Or.inr q)) c3, flats, singleL, singleL]
        exact ⟨fun q => absurd q c3, trivial⟩
theorem pls_single : ∀ (ts : List Tr), arePl ts → singleL (flats ts)
  | [], _ => by rw [flats, singleL]; trivial
  | t :: ts, h => by
    rw [arePl] at h
    rw [flats]
    exact single_append _ _ (pl_single t h.1) (pls_single ts h.2)
end
def namesL (kd : Int) (l : List S45) : List ByteArray := (l.filter fun n => decide (n.f0 = kd)).map fun n => n.f2
theorem namesL_append (kd : Int) (x y : List S45) : namesL kd (x ++ y) = namesL kd x ++ namesL kd y := by
  unfold namesL; rw [List.filter_append, List.map_append]
theorem namesL_cons (kd : Int) (n : S45) (y : List S45) : namesL kd (n :: y) = if n.f0 = kd then n.f2 :: namesL kd y else namesL kd y := by
  unfold namesL
  by_cases h : n.f0 = kd
  · rw [if_pos h]; simp [List.filter, h]
  · rw [if_neg h]; simp [List.filter, h]
theorem merge_names (kd kind : Int) (hk : kind ≠ kd) : ∀ ps : List Tr, namesL kd (flats (merge kind ps)) = namesL kd (flats ps)
  | [] => by rw [merge]
  | p :: ps => by
    rw [merge, flats_append, namesL_append, merge_names kd kind hk ps, flats, namesL_append, flat_root p, namesL_cons]
    congr 1
    by_cases hc : p.root.f0 = kind
    · rw [if_pos hc, if_neg (by omega)]
    · rw [if_neg hc, flats, flats, List.append_nil, flat_root p, namesL_cons]
mutual
theorem pl_names (kd : Int) (hk : kd = 4 ∨ kd = 5) : ∀ (t : Tr) (nt : Bool) (a b : Int), t.wf fmB a b → namesL kd (t.pl nt).flat = namesL kd t.flat
  | .mk n ks, nt, a, b, hw => by
    rw [Tr.wf] at hw
    rw [Tr.pl, Tr.flat, namesL_cons]
    by_cases c3 : n.f0 = 3
    · rw [if_pos c3, if_neg (by omega)]
      have hl : ks.length = 1 := by have := fmB_not n hw.2.1 c3; have := hw.2.2.2.1; omega
      have ih := pls_names kd hk ks (!nt) _ _ hw.2.2.2.2
      cases ks with
      | nil => cases hl
      | cons t ts =>
        obtain rfl : ts = [] := List.eq_nil_of_length_eq_zero (by simpa using hl)
        rw [pls, pls, flats, flats, flats, flats, List.append_nil, List.append_nil] at ih
        rw [pls, flats, flats, List.append_nil]; exact ih
    · rw [if_neg c3]
      by_cases c1 : n.f0 = 1 ∨ n.f0 = 2
      · have hr := kindOf_range n.f0 nt c1
        rw [if_pos c1, if_neg (by omega), Tr.flat, namesL_cons, if_neg (show ¬ (groupN (kindOf n.f0 nt) _).f0 = kd by show ¬ kindOf n.f0 nt = kd; omega), merge_names kd _ (by omega)]
        exact pls_names kd hk ks nt _ _ hw.2.2.2.2
      · rw [if_neg c1]
        have hl := fmB_leaf n hw.2.1 c1 c3
        obtain rfl : ks = [] := List.eq_nil_of_length_eq_zero (by have := hl.1; have := hw.2.2.2.1; omega)
        unfold leafT
        by_cases hn : nt = true
        · rw [if_pos hn]
          by_cases h6 : n.f0 = 6 ∨ n.f0 = 7
          · rw [if_pos h6, Tr.flat, namesL_cons, flats, if_neg (show ¬ n.f0 = kd by omega)]
          · rw [if_neg h6, Tr.flat, namesL_cons, if_neg (show ¬ (3 : Int) = kd by omega), flats, flats, Tr.flat, flats, List.append_nil, namesL_cons]
        · rw [if_neg hn, Tr.flat, namesL_cons]
theorem pls_names (kd : Int) (hk : kd = 4 ∨ kd = 5) : ∀ (ts : List Tr) (nt : Bool) (a b : Int), wfs fmB a b ts → namesL kd (flats (pls ts nt)) = namesL kd (flats ts)
  | [], nt, a, b, _ => by rw [pls]
  | t :: ts, nt, a, b, hw => by
    rw [wfs] at hw
    rw [pls, flats, flats, namesL_append, namesL_append, pl_names kd hk t nt a b hw.1, pls_names kd hk ts nt a b hw.2]
end
end Go.Proofs.YtcljnjnlafkieaaGreatDoorR.CTr
/- TraitPlain: what the program answers about a condition and the plain one. -/
namespace Go.Proofs.YtcljnjnlafkieaaGreatDoorR.CTr
open Go Go.RowKit Go.Proofs.YtcljnjnlafkieaaGreatDoorR.PPLA Go.Proofs.YtcljnjnlafkieaaGreatDoorRW.PrintWords Go.Proofs.YtcljnjnlafkieaaGreatDoorRW.PrintLast
set_option linter.unusedVariables false
theorem check_flat (t : Tr) (hw : t.wf fmB 1 0) (h64 : t.flat.length ≤ 64) (k : Nat) (hk : 6000 ≤ k) : traits_Check.f k t.flat = some 0 := by
  unfold traits_Check.f
  have hp := flat_pos t
  rw [if_neg (by omega), if_neg (by omega)]
  rcases tree_spec k fmB (formed_some k (by omega)) fmB_kids t.flat 20 1 0 0 (Nat.zero_le _) (by omega) (by omega) with ⟨t2, j, e, hw2, hd, _, hj⟩ | ⟨j, e, hj, hno⟩
  · rw [List.drop_zero] at hd
    obtain ⟨_, hr⟩ := flat_uniq fmB t 1 0 _ _ t2 [] _ hw hw2 (by rw [List.append_nil]; exact hd)
    have hjl : j = t.flat.length := by
      have := congrArg List.length hr
      rw [List.length_drop, List.length_nil] at this
      omega
    rw [e]
    show some (if true = true ∧ j = t.flat.length then (0 : Int) else 131) = some 0
    rw [if_pos ⟨rfl, hjl⟩]
  · exact absurd ⟨t, [], hw, by rw [List.drop_zero, List.append_nil]⟩ hno
theorem single_loop (l : List S45) (hl : l.length ≤ 1000) : ∀ (m i k : Nat), i + m = l.length → singleL (l.drop i) → tollbooklaw13_single.l0 (k + m + 1) l (i : Int) = some true
  | 0, i, k, hi, _ => by rw [tollbooklaw13_single.l0, if_neg (by omega)]
  | m + 1, i, k, hi, hs => by
    have hlt : i < l.length := by omega
    rw [rd_dropT l i hlt, singleL] at hs
    have ih := single_loop l hl m (i + 1) k (by omega) hs.2
    rw [show k + (m + 1) + 1 = (k + m + 1) + 1 from by omega, tollbooklaw13_single.l0, if_pos (by omega), if_pos (by omega), wrap_add1 i (by omega)]
    by_cases c3 : (rd_T45 l (i : Int)).f0 = 3
    · obtain ⟨x, r', hx, h45⟩ := hs.1 c3
      have hlt2 : i + 1 < l.length := by
        have := congrArg List.length hx
        rw [List.length_drop, List.length_cons] at this
        omega
      rw [rd_dropT l (i + 1) hlt2] at hx
      have hx := (List.cons.inj hx).1
      rw [if_pos c3, if_neg (by omega), if_pos (by omega), if_pos (by omega), hx]
      rcases h45 with h | h
      · rw [if_pos h]; exact ih
      · rw [if_neg (by omega), if_pos h]; exact ih
    · rw [if_neg c3]; exact ih
theorem single_flat (t : Tr) (hp : t.isPl) (h64 : t.flat.length ≤ 64) (k : Nat) (hk : 6000 ≤ k) : tollbooklaw13_single.f k t.flat = some true := by
  unfold tollbooklaw13_single.f
  obtain ⟨j, rfl⟩ : ∃ j, k = j + t.flat.length + 1 := ⟨k - t.flat.length - 1, by omega⟩
  exact single_loop t.flat (by omega) t.flat.length 0 j (by omega) (by rw [List.drop_zero]; exact pl_single t hp)
theorem words_loop (xs : List ByteArray) (hx : xs.length ≤ 16) : ∀ (m i k : Nat), i + m = xs.length → ∃ b, traits_words.l0 (k + m + 1) xs xs (xs.length : Int) (i : Int) = some b
  | 0, i, k, hi => ⟨true, by rw [traits_words.l0, if_neg (by omega)]⟩
  | m + 1, i, k, hi => by
    obtain ⟨b, ih⟩ := words_loop xs hx m (i + 1) k (by omega)
    rw [show k + (m + 1) + 1 = k + m + 1 + 1 from by omega, traits_words.l0, if_pos (by omega), if_pos (by omega), if_pos (by omega), word_val, Option.bind_some]
    by_cases h : nameOk (L (rdOf ByteArray.empty xs (i : Int))) = true
    · rw [if_pos h]
      by_cases h0 : 0 < i
      · rw [if_pos (show (i : Int) > 0 by omega), wrap_id (x := (i : Int) - 1) (by omega) (by omega), if_pos (by omega), if_pos (by omega), wrap_add1 i (by omega)]
        split
        · exact ⟨b, ih⟩
        · exact ⟨false, rfl⟩
      · rw [if_neg (show ¬ (i : Int) > 0 by omega), wrap_add1 i (by omega)]; exact ⟨b, ih⟩
    · rw [if_neg h]; exact ⟨false, rfl⟩
theorem words_some (xs : List ByteArray) (k : Nat) (hk : 300 ≤ k) : ∃ b, traits_words.f k xs = some b := by
  unfold traits_words.f
  by_cases h : (xs.length : Int) > 16
  · rw [if_pos h]; exact ⟨false, rfl⟩
  · rw [if_neg h]
    obtain ⟨k, rfl⟩ : ∃ j, k = j + xs.length + 1 := ⟨k - xs.length - 1, by omega⟩
    exact words_loop xs (by omega) xs.length 0 k (by omega)
theorem fitp_some (lB lL : List ByteArray) (a b c : Int) (k : Nat) (hk : 300 ≤ k) : ∃ h, traits_Fit.f k lB lL a b c = some h := by
  obtain ⟨b1, h1⟩ := words_some lB k hk
  obtain ⟨b2, h3⟩ := words_some lL k hk
  unfold traits_Fit.f
  rw [h1, h3, Option.bind_some, Option.bind_some]
  cases b1 with
  | false => exact ⟨141, rfl⟩
  | true =>
    rw [if_pos rfl]
    cases b2 with
    | false => exact ⟨141, rfl⟩
    | true =>
      rw [if_pos rfl]
      by_cases c1 : b < 0
      · rw [if_pos c1]; exact ⟨_, rfl⟩
      · rw [if_neg c1]
        by_cases c2 : b > 4
        · rw [if_pos c2]; exact ⟨_, rfl⟩
        · rw [if_neg c2]
          by_cases c3 : a < 0
          · rw [if_pos c3]; exact ⟨_, rfl⟩
          · rw [if_neg c3]
            by_cases c4 : c < 0
            · rw [if_pos c4]; exact ⟨_, rfl⟩
            · rw [if_neg c4]; exact ⟨_, rfl⟩
theorem index_loop (l : List ByteArray) (a : ByteArray) (hl : l.length ≤ 1000) : ∀ (m i k : Nat), i + m = l.length → ∃ r, slices_Index_string_string.l0 (k + m + 1) l a (l.length : Int) (i : Int) = some r
  | 0, i, k, hi => ⟨-1, by rw [slices_Index_string_string.l0, if_neg (by omega)]⟩
  | m + 1, i, k, hi => by
    obtain ⟨r, ih⟩ := index_loop l a hl m (i + 1) k (by omega)
    rw [show k + (m + 1) + 1 = (k + m + 1) + 1 from by omega, slices_Index_string_string.l0, if_pos (by omega), if_pos (by omega), if_pos (by omega), wrap_add1 i (by omega)]
    split
    · exact ⟨_, rfl⟩
    · exact ⟨r, ih⟩
theorem contains_ok (l : List ByteArray) (a : ByteArray) (hl : l.length ≤ 16) (k : Nat) (hk : 6000 ≤ k) : ∃ b, slices_Contains_string_string.f k l a = some b := by
  obtain ⟨j, rfl⟩ : ∃ j, k = j + l.length + 1 := ⟨k - l.length - 1, by omega⟩
  obtain ⟨r, hr⟩ := index_loop l a (by omega) l.length 0 j (by omega)
  unfold slices_Contains_string_string.f slices_Index_string_string.f
  rw [show ((0 : Nat) : Int) = 0 from rfl] at hr
  rw [hr, Option.bind_some]
  exact ⟨_, rfl⟩
def TT (k : Nat) (lB lL : List ByteArray) (fa fd fq : Int) (m : S45) : Bool :=
  if m.f0 = 4 then (slices_Contains_string_string.f k lB m.f2).getD false
  else if m.f0 = 5 then (slices_Contains_string_string.f k lL m.f2).getD false
  else if m.f0 = 6 then agF m.f3 (cmpI (fa.toNat * 10 ^ m.f4.f1.toNat) (m.f4.f0.toNat * 10 ^ fd.toNat))
  else agF m.f3 (cmpI (fq.toNat * 10 ^ m.f4.f1.toNat) (m.f4.f0.toNat * 10 ^ (0 : Int).toNat))
structure Fits (lB lL : List ByteArray) (fa fd fq : Int) : Prop where
  b : lB.length ≤ 16
  l : lL.length ≤ 16
  a0 : 0 ≤ fa
  a1 : fa ≤ 9223372036854775807
  d0 : 0 ≤ fd
  d1 : fd ≤ 4
  q0 : 0 ≤ fq
  q1 : fq ≤ 9223372036854775807
theorem fmB_test (m : S45) (h : fmB m = true) (h6 : m.f0 = 6 ∨ m.f0 = 7) : 1 ≤ m.f3 ∧ m.f3 ≤ 4 ∧ 0 ≤ m.f4.f0 ∧ decB m.f4.f0 m.f4.f1 = true := by
  unfold fmB at h
  rw [if_neg (by omega), if_neg (by omega), if_neg (by omega), if_pos h6] at h
  simp only [Bool.and_eq_true, decide_eq_true_iff] at h
  exact ⟨h.2.2.1, h.2.2.2.1, h.2.2.2.2.1, h.2.2.2.2.2⟩
theorem dec_ok (u p : Int) (h0 : 0 ≤ u) (h1 : u ≤ 9223372036854775807) (h : decB u p = true) : decOk u p = true := by
  unfold decB at h
  simp only [Bool.and_eq_true, Bool.or_eq_true, decide_eq_true_iff, Bool.not_eq_true', decide_eq_false_iff_not] at h
  unfold decOk
  refine decide_eq_true ⟨h0, by omega, h.1, h.2.1, fun hp => ?_⟩
  rcases h.2.2 with h | h
  · omega
  · exact h
theorem test_ok {lB lL : List ByteArray} {fa fd fq : Int} (hF : Fits lB lL fa fd fq) (k : Nat) (hk : 6000 ≤ k) (m : S45) (h : fmB m = true) (hl : m.f0 = 4 ∨ m.f0 = 5 ∨ m.f0 = 6 ∨ m.f0 = 7) (hu : m.f4.f0 ≤ 9223372036854775807) : testF k lB lL fa fd fq m = some (TT k lB lL fa fd fq m) := by
  unfold testF traits_test.f TT
  by_cases c4 : m.f0 = 4
  · rw [if_pos c4, if_pos c4]
    obtain ⟨b, hb⟩ := contains_ok lB m.f2 hF.b k hk
    rw [hb]; rfl
  · rw [if_neg c4, if_neg c4]
    by_cases c5 : m.f0 = 5
    · rw [if_pos c5, if_pos c5]
      obtain ⟨b, hb⟩ := contains_ok lL m.f2 hF.l k hk
      rw [hb]; rfl
    · rw [if_neg c5, if_neg c5]
      obtain ⟨_, _, h0, hd⟩ := fmB_test m h (by omega)
      have hdo := dec_ok _ _ h0 hu hd
      by_cases c6 : m.f0 = 6
      · rw [if_pos c6, if_pos c6]
        unfold traits_against.f
        rw [if_pos ⟨by omega, ⟨hF.a0, by have := hF.a1; omega⟩, ⟨hF.d0, hF.d1⟩, hdo⟩, Option.bind_some]
      · rw [if_neg c6, if_neg c6]
        unfold traits_against.f
        rw [if_pos ⟨by omega, ⟨hF.q0, by have := hF.q1; omega⟩, ⟨by omega, by omega⟩, hdo⟩, Option.bind_some]
theorem agF_opp (op c : Int) (h1 : 1 ≤ op) (h4 : op ≤ 4) : agF (opp op) c = !agF op c := by
  unfold agF opp
  have : op = 1 ∨ op = 2 ∨ op = 3 ∨ op = 4 := by omega
  rcases this with rfl | rfl | rfl | rfl <;> simp <;> (first | omega | grind)
theorem turns (k : Nat) (lB lL : List ByteArray) (fa fd fq : Int) : Turns (TT k lB lL fa fd fq) := by
  intro m hm h6
  obtain ⟨h1, h4, _⟩ := fmB_test m hm h6
  unfold TT
  rw [if_neg (show ¬ m.f0 = 4 by omega), if_neg (show ¬ m.f0 = 5 by omega), if_neg (show ¬ m.f0 = 4 by omega), if_neg (show ¬ m.f0 = 5 by omega)]
  by_cases c6 : m.f0 = 6
  · rw [if_pos c6, if_pos c6]; exact agF_opp _ _ h1 h4
  · rw [if_neg c6, if_neg c6]; exact agF_opp _ _ h1 h4
theorem holdsF_congr (P P' : S45 → Option Bool) (l : List S45) (h : ∀ i, i < l.length → ¬ ((rd_T45 l (i : Int)).f0 = 1 ∨ (rd_T45 l (i : Int)).f0 = 2) → ¬ (rd_T45 l (i : Int)).f0 = 3 → P (rd_T45 l (i : Int)) = P' (rd_T45 l (i : Int))) : ∀ d, holdsF P l d = holdsF P' l d
  | 0 => by funext i; rfl
  | d + 1 => by
    funext i
    have ih := holdsF_congr P P' l h d
    rw [holdsF, holdsF, ih]
    by_cases hi : i < l.length
    · rw [if_pos hi, if_pos hi]
      by_cases c1 : (rd_T45 l (i : Int)).f0 = 1 ∨ (rd_T45 l (i : Int)).f0 = 2
      · rw [if_pos c1, if_pos c1]
      · rw [if_neg c1, if_neg c1]
        by_cases c3 : (rd_T45 l (i : Int)).f0 = 3
        · rw [if_pos c3, if_pos c3]
        · rw [if_neg c3, if_neg c3, h i hi c1 c3]
    · rw [if_neg hi, if_neg hi]
mutual
theorem flat_fm : ∀ (t : Tr) (a b : Int), t.wf fmB a b → ∀ n ∈ t.flat, fmB n = true
  | .mk n ks, a, b, hw, m, hm => by
    rw [Tr.wf] at hw
    rw [Tr.flat] at hm
    rcases List.mem_cons.1 hm with rfl | hm
    · exact hw.2.1
    · exact flats_fm ks _ _ hw.2.2.2.2 m hm
theorem flats_fm : ∀ (ts : List Tr) (a b : Int), wfs fmB a b ts → ∀ n ∈ flats ts, fmB n = true
  | [], a, b, _, m, hm => by rw [flats] at hm; cases hm
  | t :: ts, a, b, hw, m, hm => by
    rw [wfs] at hw
    rw [flats] at hm
    rcases List.mem_append.1 hm with hm | hm
    · exact flat_fm t a b hw.1 m hm
    · exact flats_fm ts a b hw.2 m hm
end
def Low (n : S45) : Prop := n.f4.f0 ≤ 9223372036854775807
theorem low_nought (a b : Int) (c : ByteArray) (d : Int) : Low ⟨a, b, c, d, ⟨0, 0⟩⟩ := by show (0 : Int) ≤ 9223372036854775807; decide
theorem flats_app : ∀ xs ys : List Tr, flats (xs ++ ys) = flats xs ++ flats ys
  | [], ys => by rw [flats]; rfl
  | x :: xs, ys => by rw [List.cons_append, flats, flats, flats_app xs ys, List.append_assoc]
theorem merge_low (kind : Int) : ∀ ps : List Tr, (∀ n ∈ flats ps, Low n) → ∀ n ∈ flats (merge kind ps), Low n
  | [], _, n, hn => by rw [merge, flats] at hn; cases hn
  | .mk r ks :: ps, h, n, hn => by
    rw [merge, flats_app] at hn
    rw [flats, Tr.flat] at h
    rcases List.mem_append.1 hn with hn | hn
    · refine h n (List.mem_append_left _ ?_)
      by_cases c : (Tr.mk r ks).root.f0 = kind
      · rw [if_pos c] at hn
        exact List.mem_cons_of_mem _ hn
      · rw [if_neg c, flats, flats, Tr.flat, List.append_nil] at hn
        exact hn
    · exact merge_low kind ps (fun x hx => h x (List.mem_append_right _ hx)) n hn
mutual
theorem pl_low : ∀ (t : Tr) (nt : Bool), (∀ n ∈ t.flat, Low n) → ∀ n ∈ (t.pl nt).flat, Low n
  | .mk n ks, nt, h, m, hm => by
    rw [Tr.flat] at h
    have hn : Low n := h n List.mem_cons_self
    have hks : ∀ x ∈ flats ks, Low x := fun x hx => h x (List.mem_cons_of_mem _ hx)
    rw [Tr.pl] at hm
    by_cases c3 : n.f0 = 3
    · rw [if_pos c3] at hm
      have ih := pls_low ks (!nt) hks
      cases hp : pls ks (!nt) with
      | nil =>
        rw [hp, List.headD_nil, Tr.flat, flats] at hm
        rw [List.mem_singleton.1 hm]; exact hn
      | cons p ps =>
        rw [hp] at hm ih
        exact ih m (by rw [flats]; exact List.mem_append_left _ hm)
    · rw [if_neg c3] at hm
      by_cases c1 : n.f0 = 1 ∨ n.f0 = 2
      · rw [if_pos c1, Tr.flat] at hm
        rcases List.mem_cons.1 hm with rfl | hm
        · exact low_nought _ _ _ _
        · exact merge_low _ _ (pls_low ks nt hks) m hm
      · rw [if_neg c1] at hm
        unfold leafT at hm
        by_cases hnt : nt = true
        · rw [if_pos hnt] at hm
          by_cases c6 : n.f0 = 6 ∨ n.f0 = 7
          · rw [if_pos c6, Tr.flat, flats] at hm
            rw [List.mem_singleton.1 hm]; exact hn
          · rw [if_neg c6, Tr.flat, flats, flats, Tr.flat, flats, List.append_nil] at hm
            rcases List.mem_cons.1 hm with rfl | hm
            · exact low_nought _ _ _ _
            · rw [List.mem_singleton.1 hm]; exact hn
        · rw [if_neg hnt, Tr.flat, flats] at hm
          rw [List.mem_singleton.1 hm]; exact hn
theorem pls_low : ∀ (ts : List Tr) (nt : Bool), (∀ n ∈ flats ts, Low n) → ∀ n ∈ flats (pls ts nt), Low n
  | [], nt, _, m, hm => by rw [pls, flats] at hm; cases hm
  | t :: ts, nt, h, m, hm => by
    rw [flats] at h
    rw [pls, flats] at hm
    rcases List.mem_append.1 hm with hm | hm
    · exact pl_low t nt (fun x hx => h x (List.mem_append_left _ hx)) m hm
    · exact pls_low ts nt (fun x hx => h x (List.mem_append_right _ hx)) m hm
end
theorem words_len (k : Nat) (l : List ByteArray) (h : traits_words.f k l = some true) : l.length ≤ 16 := by
  unfold traits_words.f at h
  by_cases c : (l.length : Int) > 16
  · rw [if_pos c] at h; cases h
  · omega
theorem fits_of {k : Nat} {lB lL : List ByteArray} {fa fd fq : Int} (h : traits_Fit.f k lB lL fa fd fq = some 0) (ha : fa ≤ 9223372036854775807) (hq : fq ≤ 9223372036854775807) : Fits lB lL fa fd fq := by
  unfold traits_Fit.f at h
  obtain ⟨b1, h1, h⟩ := Option.bind_eq_some_iff.1 h
  cases b1 with
  | false => rw [if_neg Bool.false_ne_true] at h; cases h
  | true =>
    rw [if_pos rfl] at h
    obtain ⟨b2, h2, h⟩ := Option.bind_eq_some_iff.1 h
    cases b2 with
    | false => rw [if_neg Bool.false_ne_true] at h; cases h
    | true =>
      rw [if_pos rfl] at h
      by_cases c1 : fd < 0
      · rw [if_pos c1] at h; cases h
      · rw [if_neg c1] at h
        by_cases c2 : fd > 4
        · rw [if_pos c2] at h; cases h
        · rw [if_neg c2] at h
          by_cases c3 : fa < 0
          · rw [if_pos c3] at h; cases h
          · rw [if_neg c3] at h
            by_cases c4 : fq < 0
            · rw [if_pos c4] at h; cases h
            · exact ⟨words_len k lB h1, words_len k lL h2, by omega, ha, by omega, by omega, by omega, hq⟩
theorem rd_mem (l : List S45) (i : Nat) (h : i < l.length) : rd_T45 l (i : Int) ∈ l := by
  have := rd_dropT l i h
  exact List.mem_of_mem_drop (i := i) (by rw [this]; exact List.mem_cons_self)
theorem holds_flat {lB lL : List ByteArray} {fa fd fq : Int} (t : Tr) (hw : t.wf fmB 1 0) (h64 : t.flat.length ≤ 64) (hlow : ∀ n ∈ t.flat, Low n) (k : Nat) (hk : 6000 ≤ k) (hF : Fits lB lL fa fd fq) (hfit : traits_Fit.f k lB lL fa fd fq = some 0) :
    traits_Holds.f k t.flat lB lL fa fd fq = some (t.ev (TT k lB lL fa fd fq), 0) := by
  have hp := flat_pos t
  have hc := holdsF_congr (testF k lB lL fa fd fq) (fun m => some (TT k lB lL fa fd fq m)) t.flat (fun i hi c1 c3 => by
    have hm := rd_mem t.flat i hi
    have hfm := flat_fm t 1 0 hw _ hm
    exact test_ok hF k hk _ hfm (fmB_leaf _ hfm c1 c3).2 (hlow _ hm)) 20
  unfold traits_Holds.f
  rw [check_flat t hw h64 k hk, Option.bind_some, if_pos rfl, hfit, Option.bind_some, if_pos rfl, if_neg (by omega), hc, holdsF_spec (TT k lB lL fa fd fq) (fun m => some (TT k lB lL fa fd fq m)) (fun m _ _ => rfl) t.flat 20 t 1 0 0 [] hw (by omega) (by rw [List.drop_zero, List.append_nil])]
  rfl
theorem holds_same (t : Tr) (hw : t.wf fmB 1 0) (h64 : t.flat.length ≤ 64) (h64' : (t.pl false).flat.length ≤ 64) (hlow : ∀ n ∈ t.flat, Low n) (k : Nat) (hk : 6000 ≤ k) (lB lL : List ByteArray) (fa fd fq : Int) (ha : fa ≤ 9223372036854775807) (hq : fq ≤ 9223372036854775807) :
    ∃ x i, traits_Holds.f k t.flat lB lL fa fd fq = some (x, i) ∧ traits_Holds.f k (t.pl false).flat lB lL fa fd fq = some (x, i) := by
  have hw' : (t.pl false).wf fmB 1 0 := by have := pl_wf t false 1 0 hw; rwa [show (1 : Int) - off false = 1 from rfl] at this
  obtain ⟨h, hfit⟩ := fitp_some lB lL fa fd fq k (by omega)
  by_cases h0 : h = 0
  · subst h0
    have hF := fits_of hfit ha hq
    refine ⟨_, _, holds_flat t hw h64 hlow k hk hF hfit, ?_⟩
    rw [holds_flat (t.pl false) hw' h64' (pl_low t false hlow) k hk hF hfit, pl_ev (TT k lB lL fa fd fq) (turns k lB lL fa fd fq) t false 1 0 hw, Bool.false_xor]
  · refine ⟨false, h, ?_, ?_⟩
    · unfold traits_Holds.f
      rw [check_flat t hw h64 k hk, Option.bind_some, if_pos rfl, hfit, Option.bind_some, if_neg h0]
    · unfold traits_Holds.f
      rw [check_flat _ hw' h64' k hk, Option.bind_some, if_pos rfl, hfit, Option.bind_some, if_neg h0]
theorem plain_flat (t : Tr) (hw : t.wf fmB 1 0) (h64 : t.flat.length ≤ 64) (k : Nat) (hk : 6000 ≤ k) : traits_Plain.f k t.flat = if 64 < (t.pl false).flat.length then some ([], 3) else some ((t.pl false).flat, 0) := by
  have hp := flat_pos t
  unfold traits_Plain.f
  rw [check_flat t hw h64 k hk, Option.bind_some, if_pos rfl, if_neg (by omega), plainF_spec t.flat h64 20 t 1 0 false 0 [] hw (by omega) (by rw [List.drop_zero, List.append_nil]), Option.bind_some]
theorem names_flat (l : List S45) (h64 : l.length ≤ 64) (k : Nat) (hk : 6000 ≤ k) (hc : traits_Check.f k l = some 0) : traits_Names.f k l = some (tidy (namesK 4 l), tidy (namesK 5 l), 0) := by
  unfold traits_Names.f
  obtain ⟨j, rfl⟩ : ∃ j, k = j + l.length + 1 := ⟨k - l.length - 1, by omega⟩
  have h := names_loop l h64 l.length 0 j (by omega)
  rw [hc, Option.bind_some, if_pos rfl]
  exact h
theorem plain_cases (l : List S45) (k : Nat) (hk : 6000 ≤ k) (hlow : ∀ n ∈ l, Low n) :
    (∃ e c, traits_Plain.f k l = some ([], e) ∧ traits_Check.f k l = some c ∧ ¬ e = 0 ∧ (e == 3) = (c == 0)) ∨
    (∃ out bs ls, traits_Plain.f k l = some (out, 0) ∧ traits_Check.f k l = some 0 ∧ traits_Plain.f k out = some (out, 0) ∧ traits_Check.f k out = some 0 ∧ tollbooklaw13_single.f k out = some true ∧ out.length ≤ 64 ∧ (out.length = 0 ↔ l.length = 0) ∧
      (∀ (lB lL : List ByteArray) (fa fd fq : Int), fa ≤ 9223372036854775807 → fq ≤ 9223372036854775807 → ∃ x i, traits_Holds.f k l lB lL fa fd fq = some (x, i) ∧ traits_Holds.f k out lB lL fa fd fq = some (x, i)) ∧
      traits_Names.f k l = some (bs, ls, 0) ∧ traits_Names.f k out = some (bs, ls, 0) ∧ bs.length ≤ 64 ∧ ls.length ≤ 64) := by
  by_cases h0 : l.length = 0
  · obtain rfl := List.eq_nil_of_length_eq_zero h0
    have hc := check_nil [] k rfl
    have hp : traits_Plain.f k [] = some ([], 0) := by
      unfold traits_Plain.f
      rw [hc, Option.bind_some, if_pos rfl, if_pos (show ([] : List S45).length = 0 from rfl)]
    obtain ⟨bs, ls, g, n1, _, n3, n4⟩ := names_some [] k hk
    have n2 := names_flat [] (Nat.zero_le _) k hk hc
    rw [n2] at n1
    obtain ⟨rfl, h⟩ := Prod.mk.inj (Option.some.inj n1)
    obtain ⟨rfl, _⟩ := Prod.mk.inj h
    refine Or.inr ⟨[], _, _, hp, hc, hp, hc, ?_, Nat.zero_le _, Iff.rfl, ?_, n2, n2, n3, n4⟩
    · unfold tollbooklaw13_single.f
      obtain ⟨j, rfl⟩ : ∃ j, k = j + 0 + 1 := ⟨k - 1, by omega⟩
      exact single_loop [] (by decide) 0 0 j rfl (by rw [List.drop_zero, singleL]; trivial)
    · intro lB lL fa fd fq _ _
      obtain ⟨h, hfit⟩ := fitp_some lB lL fa fd fq k (by omega)
      by_cases q : h = 0
      · exact ⟨true, 0, by unfold traits_Holds.f; rw [hc, Option.bind_some, if_pos rfl, hfit, Option.bind_some, if_pos q, if_pos (show ([] : List S45).length = 0 from rfl)], by unfold traits_Holds.f; rw [hc, Option.bind_some, if_pos rfl, hfit, Option.bind_some, if_pos q, if_pos (show ([] : List S45).length = 0 from rfl)]⟩
      · exact ⟨false, h, by unfold traits_Holds.f; rw [hc, Option.bind_some, if_pos rfl, hfit, Option.bind_some, if_neg q], by unfold traits_Holds.f; rw [hc, Option.bind_some, if_pos rfl, hfit, Option.bind_some, if_neg q]⟩
  · rcases check_cases l k hk h0 with ⟨t, hw, hl, h64, e1, _⟩ | ⟨e1, _⟩
    · subst hl
      have hpf := plain_flat t hw h64 k hk
      by_cases c : 64 < (t.pl false).flat.length
      · rw [if_pos c] at hpf
        exact Or.inl ⟨3, 0, hpf, e1, by decide, rfl⟩
      · rw [if_neg c] at hpf
        have hw' : (t.pl false).wf fmB 1 0 := by have := pl_wf t false 1 0 hw; rwa [show (1 : Int) - off false = 1 from rfl] at this
        have hpl := pl_isPl t false 1 0 hw
        have hfix := pl_fix _ hpl
        have h64' : (t.pl false).flat.length ≤ 64 := by omega
        have hc' := check_flat _ hw' h64' k hk
        have hpf' := plain_flat (t.pl false) hw' h64' k hk
        rw [hfix, if_neg c] at hpf'
        have hp1 := flat_pos (t.pl false)
        obtain ⟨bs, ls, g, n1, _, n3, n4⟩ := names_some t.flat k hk
        have n2 := names_flat t.flat h64 k hk e1
        have n2' := names_flat _ h64' k hk hc'
        have q4 : namesK 4 (t.pl false).flat = namesK 4 t.flat := pl_names 4 (.inl rfl) t false 1 0 hw
        have q5 : namesK 5 (t.pl false).flat = namesK 5 t.flat := pl_names 5 (.inr rfl) t false 1 0 hw
        rw [q4, q5] at n2'
        rw [n2] at n1
        obtain ⟨rfl, h⟩ := Prod.mk.inj (Option.some.inj n1)
        obtain ⟨rfl, _⟩ := Prod.mk.inj h
        exact Or.inr ⟨_, _, _, hpf, e1, hpf', hc', single_flat _ hpl h64' k hk, h64', by omega, fun lB lL fa fd fq ha hq => holds_same t hw h64 h64' hlow k hk lB lL fa fd fq ha hq, n2, n2', n3, n4⟩
    · refine Or.inl ⟨131, 131, ?_, e1, by decide, rfl⟩
      unfold traits_Plain.f
      rw [e1, Option.bind_some, if_neg (by decide)]
end Go.Proofs.YtcljnjnlafkieaaGreatDoorR.CTr
