/- Covers, and what the law of covers says: over the printed functions. -/
import Derived.Test.YtkghkpmolcbmmaaDoorTrClass
import Derived.Test.YtkghkpmolcbmmaaDoorPALLx4
import Derived.Test.YtkghkpmolcbmmaaDoorPALLx3
import Derived.Test.YtkghkpmolcbmmaaDoorPALLx12
import Derived.Test.YtkghkpmolcbmmaaDoorPALLx13
namespace Go.Proofs.YtkghkpmolcbmmaaDoor.Tr
open Go Go.RowKit Go.Proofs.YtkghkpmolcbmmaaDoor.PALL Go.Proofs.YtkghkpmolcbmmaaDoorW.PrintWords Go.Proofs.YtkghkpmolcbmmaaDoorW.PrintLast
theorem equal_loop (xs ys : List ByteArray) (hx : xs.length ≤ 1000) (hl : xs.length = ys.length) : ∀ (m i k : Nat), i + m = xs.length →
    slices_Equal_string_string.l0 (k + m + 1) xs ys (xs.length : Int) (i : Int) = some (decide (xs.drop i = ys.drop i))
  | 0, i, k, hi => by
    rw [slices_Equal_string_string.l0, if_neg (by omega), List.drop_of_length_le (by omega), List.drop_of_length_le (by omega)]; rfl
  | m + 1, i, k, hi => by
    rw [show k + (m + 1) + 1 = (k + m + 1) + 1 from by omega, slices_Equal_string_string.l0, if_pos (by omega), if_pos (by omega), if_pos (by omega), if_pos (by omega), rd_drop xs i (by omega), rd_drop ys i (by omega), Lib.toList_data, Lib.toList_data]
    by_cases h : L (rdOf ByteArray.empty xs (i : Int)) = L (rdOf ByteArray.empty ys (i : Int))
    · rw [if_pos h, wrap_add1 i (by omega), equal_loop xs ys hx hl m (i + 1) k (by omega)]
      have e := L_inj h
      exact congrArg some (decide_eq_decide.2 ⟨fun q => by rw [e, q], fun q => (List.cons.inj q).2⟩)
    · rw [if_neg h]
      exact congrArg some (decide_eq_false (fun q => h (by rw [(List.cons.inj q).1]))).symm
theorem equal_some (xs ys : List ByteArray) (hx : xs.length ≤ 8) (k : Nat) (hk : 10 ≤ k) : slices_Equal_string_string.f k xs ys = some (decide (xs = ys)) := by
  unfold slices_Equal_string_string.f
  by_cases h : xs.length = ys.length
  · rw [if_pos (by omega)]
    obtain ⟨k, rfl⟩ : ∃ j, k = j + xs.length + 1 := ⟨k - xs.length - 1, by omega⟩
    exact equal_loop xs ys (by omega) h xs.length 0 k (by omega)
  · rw [if_neg (by omega)]
    exact congrArg some (decide_eq_false (fun q => h (by rw [q]))).symm
theorem nil_iff (s : ByteArray) : (s.toList = ([] : List UInt8)) ↔ s.size = 0 := by
  rw [Lib.toList_data, ← L_len, List.length_eq_zero_iff]
theorem covers_some (over cls : ByteArray) (ho : over.size < 4294967281) (hc : cls.size < 4294967281) (k : Nat) (hk : 20 ≤ k) : traits_Covers.f k over cls = some (coversV over cls) := by
  obtain ⟨k, rfl⟩ : ∃ j, k = j + 1 := ⟨k - 1, by omega⟩
  unfold traits_Covers.f
  rw [class_some cls hc (k + 1) (by omega), Option.bind_some]
  unfold coversV
  by_cases h1 : classOk cls = true
  · unfold classV
    rw [if_pos h1, if_pos rfl, traits_Covers.j0, h1, Bool.true_and]
    by_cases h2 : over.size = 0
    · rw [if_pos (beq_iff_eq.2 ((nil_iff over).2 h2)), decide_eq_true h2]; rfl
    · rw [if_neg (fun e => h2 ((nil_iff over).1 (beq_iff_eq.1 e))), class_some over ho k (by omega), Option.bind_some, decide_eq_false h2, Bool.false_or]
      unfold classV
      by_cases h3 : classOk over = true
      · rw [if_pos h3, if_pos rfl, h3, Bool.true_and]
        have h8 := ((classOk_iff over).1 h3).1
        by_cases h4 : (partsV over).length ≤ (partsV cls).length
        · rw [if_pos (by exact_mod_cast h4), if_pos (by omega), Int.toNat_natCast, equal_some _ _ h8 k (by omega), Option.bind_some]
          exact congrArg some (decide_eq_decide.2 List.prefix_iff_eq_take.symm)
        · rw [if_neg (fun e => h4 (by exact_mod_cast e))]
          exact congrArg some (decide_eq_false (fun q => h4 q.length_le)).symm
      · rw [if_neg h3, if_neg (by decide), Bool.eq_false_iff.2 h3, Bool.false_and]
  · unfold classV
    rw [if_neg h1, if_neg (by decide), traits_Covers.j0, if_pos rfl, Bool.eq_false_iff.2 h1, Bool.false_and]; rfl
theorem awake_at : tollbooklaw13_awake.f 40 = some true := by decide +kernel
theorem awake_some : ∀ k, 40 ≤ k → tollbooklaw13_awake.f k = some true := by
  intro k hk
  obtain ⟨j, rfl⟩ : ∃ j, k = 40 + j := ⟨k - 40, by omega⟩
  induction j with
  | zero => exact awake_at
  | succ j ih => exact tollbooklaw13_awake.mono (40 + j) _ (ih (by omega))
theorem L_append (a b : ByteArray) : L (a ++ b) = L a ++ L b := by simp
/-- the text of the first parts -/
def upTo (ps : List ByteArray) (i : Nat) : ByteArray := bs (joinL 46 ((ps.take i).map L))
theorem upTo_zero (ps : List ByteArray) : upTo ps 0 = (⟨#[]⟩ : ByteArray) := rfl
theorem take_next (ps : List ByteArray) (i : Nat) (h : i < ps.length) : ps.take (i + 1) = ps.take i ++ [rdOf ByteArray.empty ps (i : Int)] := by
  rw [List.take_succ_eq_append_getElem h]
  unfold rdOf
  rw [Int.toNat_natCast, List.getD_eq_getElem?_getD, List.getElem?_eq_getElem h]; rfl
theorem upTo_one (ps : List ByteArray) (h : 0 < ps.length) : (⟨#[]⟩ : ByteArray) ++ rdOf ByteArray.empty ps ((0 : Nat) : Int) = upTo ps 1 := by
  apply L_inj
  rw [L_append, upTo, L_bs, take_next ps 0 h]; rfl
theorem upTo_next (ps : List ByteArray) (i : Nat) (h0 : 0 < i) (h : i < ps.length) : (upTo ps i ++ (⟨#[46]⟩ : ByteArray)) ++ rdOf ByteArray.empty ps (i : Int) = upTo ps (i + 1) := by
  apply L_inj
  have hne : (ps.take i).map L ≠ [] := by
    intro e
    have := congrArg List.length e
    rw [List.length_map, List.length_take, List.length_nil] at this
    omega
  rw [L_append, L_append, upTo, upTo, L_bs, L_bs, take_next ps i h, List.map_append, List.map_cons, List.map_nil, join_snoc 46 _ _ hne]
theorem join_len (c : UInt8) : ∀ (ps : List (List UInt8)), (∀ p ∈ ps, p.length ≤ 24) → (joinL c ps).length ≤ 25 * ps.length
  | [], _ => Nat.zero_le _
  | [p], h => by
    have := h p List.mem_cons_self
    rw [joinL]; simp only [List.length_cons, List.length_nil]; omega
  | p :: q :: t, h => by
    have h1 := h p List.mem_cons_self
    have h2 := join_len c (q :: t) (fun x hx => h x (List.mem_cons_of_mem _ hx))
    rw [joinL, List.length_append, List.length_cons]
    simp only [List.length_cons] at h2 ⊢
    omega
theorem upTo_size (ps : List ByteArray) (i : Nat) (h8 : ps.length ≤ 8) (h : ∀ p ∈ ps, goodW p = true) : (upTo ps i).size ≤ 200 := by
  have := join_len 46 ((ps.take i).map L) (fun p hp => by
    obtain ⟨q, hq, rfl⟩ := List.mem_map.1 hp
    have := good_size q (h q (List.mem_of_mem_take hq))
    rw [L_len]; omega)
  rw [List.length_map, List.length_take] at this
  rw [← L_len, upTo, L_bs]; omega
theorem rd_mem (ps : List ByteArray) (i : Nat) (h : i < ps.length) : rdOf ByteArray.empty ps (i : Int) ∈ ps := by
  have := rd_drop ps i h
  exact List.mem_of_mem_drop (by rw [this]; exact List.mem_cons_self)
theorem j2_some (a b c : ByteArray) (ha : a.size < 4294967281) (hb : b.size < 4294967281) (k : Nat) (hk : 50 ≤ k) (x86 : Bool) (h86 : x86 = false) : tollbooklaw13_TraitCovers.j2 k a b (coversV a c) (coversV b c) x86 = some true := by
  subst h86
  obtain ⟨k, rfl⟩ : ∃ j, k = j + 1 := ⟨k - 1, by omega⟩
  rw [tollbooklaw13_TraitCovers.j2, if_neg Bool.false_ne_true, awake_some k (by omega), Option.bind_some]
  by_cases h1 : coversV a c = true
  · rw [if_pos h1]
    by_cases h2 : coversV b c = true
    · rw [if_pos h2]
      by_cases h3 : a.size = 0
      · rw [if_pos ((nil_iff a).2 h3)]
      · rw [if_neg (fun e => h3 ((nil_iff a).1 e))]
        by_cases h4 : b.size = 0
        · rw [if_pos ((nil_iff b).2 h4)]
        · rw [if_neg (fun e => h4 ((nil_iff b).1 e)), covers_some a b ha hb k (by omega), Option.bind_some, covers_some b a hb ha k (by omega), Option.bind_some]
          rcases covers_two a b c h1 h2 h3 h4 with g | g
          · rw [if_pos g]
          · rw [if_pos g]; split <;> rfl
    · rw [if_neg h2]
  · rw [if_neg h1]
theorem j1_some (a b c : ByteArray) (ha : a.size < 4294967281) (hb : b.size < 4294967281) (hc : c.size < 4294967281) (k : Nat) (hk : 60 ≤ k) (x : Bool) (hx : x = false) : tollbooklaw13_TraitCovers.j1 k a b c x = some true := by
  subst hx
  obtain ⟨k, rfl⟩ : ∃ j, k = j + 1 := ⟨k - 1, by omega⟩
  rw [tollbooklaw13_TraitCovers.j1, if_neg Bool.false_ne_true, covers_some a c ha hc k (by omega), Option.bind_some, covers_some b c hb hc k (by omega), Option.bind_some, covers_some a b ha hb k (by omega), Option.bind_some]
  by_cases h1 : coversV a b = true
  · rw [if_pos h1]
    by_cases h2 : coversV b c = true
    · rw [if_pos h2]
      exact j2_some a b c ha hb k (by omega) _ (by rw [covers_trans a b c h1 h2]; rfl)
    · rw [if_neg h2]; exact j2_some a b c ha hb k (by omega) _ rfl
  · rw [if_neg h1]; exact j2_some a b c ha hb k (by omega) _ rfl
theorem law_loop (a b c : ByteArray) (ha : a.size < 4294967281) (hb : b.size < 4294967281) (hc : c.size < 4294967281) (h : classOk c = true) : ∀ (m i k : Nat), i + m = (partsV c).length → 70 ≤ k → tollbooklaw13_TraitCovers.l0 (k + m + 1) a b c (partsV c) (upTo (partsV c) i) (i : Int) = some true
  | 0, i, k, hi, hk => by
    obtain rfl : i = (partsV c).length := by omega
    have e : upTo (partsV c) (partsV c).length = c := by unfold upTo; rw [List.take_length]; exact join_parts c
    rw [tollbooklaw13_TraitCovers.l0, if_neg (by omega), e, if_pos rfl, covers_some c c hc hc k (by omega), Option.bind_some, if_pos (covers_self c h), covers_some _ c (by decide) hc k (by omega), Option.bind_some]
    exact j1_some a b c ha hb hc k (by omega) _ (by rw [covers_nil c h]; rfl)
  | m + 1, i, k, hi, hk => by
    have hI := (classOk_iff c).1 h
    have hs := upTo_size (partsV c) i hI.1 hI.2
    have hs1 := upTo_size (partsV c) (i + 1) hI.1 hI.2
    have hp := good_size _ (hI.2 _ (rd_mem (partsV c) i (by omega)))
    have hcov : coversV (upTo (partsV c) (i + 1)) c = true := covers_take c h i (by omega)
    have ih := law_loop a b c ha hb hc h m (i + 1) k (by omega) hk
    rw [show k + (m + 1) + 1 = (k + m + 1) + 1 from by omega, tollbooklaw13_TraitCovers.l0, if_pos (by omega)]
    by_cases h0 : 0 < i
    · have hd : ((upTo (partsV c) i) ++ (⟨#[46]⟩ : ByteArray)).size = (upTo (partsV c) i).size + 1 := by rw [ByteArray.size_append]; rfl
      rw [if_pos (by omega), if_pos (by omega), if_pos (by omega), if_pos (by rw [hd]; omega), upTo_next (partsV c) i h0 (by omega), covers_some _ c (by omega) hc (k + m + 1) (by omega), Option.bind_some, if_pos hcov, wrap_add1 i (by omega)]
      exact ih
    · obtain rfl : i = 0 := by omega
      rw [if_neg (by omega), if_pos (by omega), upTo_zero, if_pos (by rw [show (⟨#[]⟩ : ByteArray).size = 0 from rfl]; omega), upTo_one (partsV c) (by omega), covers_some _ c (by have h1 : (upTo (partsV c) 1).size ≤ 200 := hs1; omega) hc (k + m + 1) (by omega), Option.bind_some, if_pos hcov, wrap_add1 0 (by omega)]
      exact ih
theorem TraitCovers_some (a b c : ByteArray) (ha : a.size < 4294967281) (hb : b.size < 4294967281) (hc : c.size < 4294967281) : tollbooklaw13_TraitCovers.f ((100 + (partsV c).length) + 1) a b c = some true := by
  unfold tollbooklaw13_TraitCovers.f
  rw [class_some c hc _ (by omega), Option.bind_some]
  unfold classV
  by_cases h : classOk c = true
  · rw [if_pos h, if_pos rfl]
    exact law_loop a b c ha hb hc h (partsV c).length 0 100 (by omega) (by omega)
  · rw [if_neg h, if_neg (by decide), covers_some a c ha hc _ (by omega), Option.bind_some, covers_no a c (Bool.eq_false_iff.2 h), if_neg Bool.false_ne_true, covers_some _ c (by decide) hc _ (by omega), Option.bind_some, covers_no _ c (Bool.eq_false_iff.2 h), if_neg Bool.false_ne_true, if_pos (show ((([], 140) : List ByteArray × Int).1.length : Int) = 0 from rfl), awake_some _ (by omega)]; rfl
end Go.Proofs.YtkghkpmolcbmmaaDoor.Tr
