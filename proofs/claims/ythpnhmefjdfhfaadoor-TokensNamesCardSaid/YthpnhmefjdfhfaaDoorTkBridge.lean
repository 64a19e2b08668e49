/- The printed functions of package tokens come to the plain ones. -/
import Derived.Test.YthpnhmefjdfhfaaDoorTkThms
import Derived.Test.YthpnhmefjdfhfaaDoorPALLx5
import Derived.Lib.Strings
namespace Go.Proofs.YthpnhmefjdfhfaaDoor.Tk
open Go.RowKit Go.Proofs.YthpnhmefjdfhfaaDoor.PALL Go.Proofs.YthpnhmefjdfhfaaDoorW.PrintWords Go.Proofs.YthpnhmefjdfhfaaDoorW.PrintLast

abbrev L (s : ByteArray) : List UInt8 := s.data.toList
theorem L_len (s : ByteArray) : (L s).length = s.size := by simp
theorem L_ext (s : ByteArray) (a b : Nat) : L (s.extract a b) = ((L s).drop a).take (b - a) := Lib.extract_data s a b
theorem L_from (s : ByteArray) (a : Nat) : L (s.extract a s.size) = (L s).drop a := by
  rw [L_ext, List.take_of_length_le]; simp
theorem L_to (s : ByteArray) (b : Nat) : L (s.extract 0 b) = (L s).take b := by rw [L_ext]; simp
theorem size_from (s : ByteArray) (a : Nat) : (s.extract a s.size).size = s.size - a := by simp
theorem L_inj {s t : ByteArray} (h : L s = L t) : s = t := by
  cases s; cases t; simp only [L] at h; congr; exact Array.toList_inj.1 h
/-- small enough for every reckoning with places -/
def Sm (s : ByteArray) : Prop := s.size ≤ 281474976710656
theorem Sm.ext {s : ByteArray} (h : Sm s) (a b : Nat) : Sm (s.extract a b) := by
  unfold Sm at *; simp; omega
theorem wrap_id {x : Int} (h0 : -9223372036854775808 ≤ x) (h1 : x ≤ 9223372036854775807) : wrap64 x = x := by unfold wrap64; omega

theorem cutN_run (s set : ByteArray) : cutN s set = run (inSet set) (L s) := rfl
/-- all of an ASCII set, byte by byte -/
theorem set_eq (set : ByteArray) (p : UInt8 → Bool) (h : ((List.range 256).all fun n => inSet set (UInt8.ofNat n) == p (UInt8.ofNat n)) = true) : inSet set = p := by
  funext c
  have := List.all_eq_true.1 h c.toNat (List.mem_range.2 c.toNat_lt)
  simpa using this
theorem run_some (s set : ByteArray) (p : UInt8 → Bool) (hs : Sm s) (hp : inSet set = p) (ha : set.data.toList.all (fun c => decide (c.toNat < 128)) = true) :
    tokens_run.f s set = some ((run p (L s) : Nat) : Int) := by
  unfold tokens_run.f tokens_cutLeft.f
  rw [if_pos ha]
  simp only [Option.bind_some]
  rw [size_from, cutN_run, hp]
  have := run_le p (L s)
  rw [L_len] at this
  unfold Sm at hs
  rw [wrap_id (by omega) (by omega)]
  congr 1; omega
theorem set_lo : inSet (⟨#[97, 98, 99, 100, 101, 102, 103, 104, 105, 106, 107, 108, 109, 110, 111, 112, 113, 114, 115, 116, 117, 118, 119, 120, 121, 122]⟩ : ByteArray) = lo := set_eq _ _ (by decide +kernel)
theorem set_wi : inSet (⟨#[97, 98, 99, 100, 101, 102, 103, 104, 105, 106, 107, 108, 109, 110, 111, 112, 113, 114, 115, 116, 117, 118, 119, 120, 121, 122, 48, 49, 50, 51, 52, 53, 54, 55, 56, 57, 95]⟩ : ByteArray) = wi := set_eq _ _ (by decide +kernel)
theorem set_up : inSet (⟨#[65, 66, 67, 68, 69, 70, 71, 72, 73, 74, 75, 76, 77, 78, 79, 80, 81, 82, 83, 84, 85, 86, 87, 88, 89, 90]⟩ : ByteArray) = up := set_eq _ _ (by decide +kernel)
theorem set_dg : inSet (⟨#[48, 49, 50, 51, 52, 53, 54, 55, 56, 57]⟩ : ByteArray) = dg := set_eq _ _ (by decide +kernel)
theorem set_af : inSet (⟨#[97, 98, 99, 100, 101, 102, 103, 104, 105, 106, 107, 108, 109, 110, 111, 112, 113, 114, 115, 116, 117, 118, 119, 120, 121, 122, 65, 66, 67, 68, 69, 70, 71, 72, 73, 74, 75, 76, 77, 78, 79, 80, 81, 82, 83, 84, 85, 86, 87, 88, 89, 90, 48, 49, 50, 51, 52, 53, 54, 55, 56, 57, 95, 46]⟩ : ByteArray) = af := set_eq _ _ (by decide +kernel)
theorem run_lo (s : ByteArray) (hs : Sm s) : tokens_run.f s (⟨#[97, 98, 99, 100, 101, 102, 103, 104, 105, 106, 107, 108, 109, 110, 111, 112, 113, 114, 115, 116, 117, 118, 119, 120, 121, 122]⟩ : ByteArray) = some ((run lo (L s) : Nat) : Int) := run_some _ _ _ hs set_lo (by decide +kernel)
theorem run_wi (s : ByteArray) (hs : Sm s) : tokens_run.f s (⟨#[97, 98, 99, 100, 101, 102, 103, 104, 105, 106, 107, 108, 109, 110, 111, 112, 113, 114, 115, 116, 117, 118, 119, 120, 121, 122, 48, 49, 50, 51, 52, 53, 54, 55, 56, 57, 95]⟩ : ByteArray) = some ((run wi (L s) : Nat) : Int) := run_some _ _ _ hs set_wi (by decide +kernel)
theorem run_up (s : ByteArray) (hs : Sm s) : tokens_run.f s (⟨#[65, 66, 67, 68, 69, 70, 71, 72, 73, 74, 75, 76, 77, 78, 79, 80, 81, 82, 83, 84, 85, 86, 87, 88, 89, 90]⟩ : ByteArray) = some ((run up (L s) : Nat) : Int) := run_some _ _ _ hs set_up (by decide +kernel)
theorem run_dg (s : ByteArray) (hs : Sm s) : tokens_run.f s (⟨#[48, 49, 50, 51, 52, 53, 54, 55, 56, 57]⟩ : ByteArray) = some ((run dg (L s) : Nat) : Int) := run_some _ _ _ hs set_dg (by decide +kernel)
theorem run_af (s : ByteArray) (hs : Sm s) : tokens_run.f s (⟨#[97, 98, 99, 100, 101, 102, 103, 104, 105, 106, 107, 108, 109, 110, 111, 112, 113, 114, 115, 116, 117, 118, 119, 120, 121, 122, 65, 66, 67, 68, 69, 70, 71, 72, 73, 74, 75, 76, 77, 78, 79, 80, 81, 82, 83, 84, 85, 86, 87, 88, 89, 90, 48, 49, 50, 51, 52, 53, 54, 55, 56, 57, 95, 46]⟩ : ByteArray) = some ((run af (L s) : Nat) : Int) := run_some _ _ _ hs set_af (by decide +kernel)

theorem part_some (s : ByteArray) (hs : Sm s) : tokens_part.f s = some ((part (L s) : Nat) : Int) := by
  unfold tokens_part.f
  rw [run_lo s hs, Option.bind_some]
  by_cases h : run lo (L s) = 0
  · rw [if_pos (by omega)]; simp [part, h]
  · rw [if_neg (by omega), run_wi s hs, Option.bind_some]; simp [part, h]
/-- is the first byte this one? -/
def hd (n : Nat) : List UInt8 → Bool
  | [] => false
  | c :: _ => decide (c.toNat = n)
theorem prefix_some (s : ByteArray) (b : UInt8) : strings_HasPrefix.f s (⟨#[b]⟩ : ByteArray) = some (hd b.toNat (L s)) := by
  have h1 : ((⟨#[b]⟩ : ByteArray).size : Int) = 1 := rfl
  unfold strings_HasPrefix.f stringslite_HasPrefix.f
  rw [h1]
  by_cases h : (s.size : Int) ≥ 1
  · rw [if_pos h, if_pos (by omega), if_pos (by omega)]
    simp only [Option.bind_some]
    congr 1
    rw [Lib.toList_data, Lib.toList_data]
    have e : (s.extract 0 (1 : Int).toNat).data.toList = (L s).take 1 := L_to s 1
    rw [e]
    have hl := L_len s
    cases hL : L s with
    | nil => rw [hL] at hl; simp at hl; omega
    | cons c r =>
      simp only [List.take_succ_cons, List.take_zero, hd]
      rw [Bool.eq_iff_iff]
      simp [UInt8.toNat_inj]
  · rw [if_neg h]
    have hl := L_len s
    cases hL : L s with
    | nil => rfl
    | cons c r => rw [hL] at hl; simp at hl; omega

theorem code_some (s : ByteArray) (hs : Sm s) : tokens_code.f s = some ((code (L s) : Nat) : Int) := by
  have hl := L_len s
  unfold tokens_code.f
  by_cases h : (s.size : Int) < 3
  · rw [if_pos h]
    have : ¬ run up ((L s).take 3) = 3 := by have := run_le up ((L s).take 3); rw [List.length_take, hl] at this; omega
    simp [code, this]
  · rw [if_neg h, if_pos (by omega), if_pos (by omega), run_up _ (hs.ext 0 3), Option.bind_some, L_to]
    have h3 := run_le up ((L s).take 3)
    rw [List.length_take] at h3
    by_cases h2 : run up ((L s).take 3) = 3
    · rw [if_neg (by omega)]; simp [code, h2]
    · rw [if_pos (by omega)]; simp [code, h2]
theorem bt_head (s : ByteArray) (c : UInt8) (r : List UInt8) (h : L s = c :: r) : bt s 0 = c.toNat := by
  have hl := L_len s
  rw [h] at hl
  unfold bt
  have h0 : (0 : Int).toNat < s.size := by simp at hl ⊢; omega
  rw [dif_pos h0]
  have : s[(0 : Int).toNat]'h0 = (L s)[0]'(by rw [h]; simp) := rfl
  rw [this]
  simp [h]
theorem bt_get (s : ByteArray) (i : Nat) (h : i < s.size) : bt s i = ((L s)[i]'(by rw [L_len]; exact h)).toNat := by
  unfold bt
  rw [dif_pos (by simpa using h)]
  rfl
theorem bt_drop (s : ByteArray) (i : Nat) (c : UInt8) (r : List UInt8) (h : (L s).drop i = c :: r) : bt s i = c.toNat := by
  have hl := L_len s
  have hi : i < s.size := by
    rcases Nat.lt_or_ge i s.size with q | q
    · exact q
    · rw [List.drop_of_length_le (by omega)] at h; cases h
  rw [bt_get s i hi]
  have : (L s)[i]'(by rw [hl]; exact hi) = c := by
    have := List.getElem_drop (xs := L s) (i := i) (j := 0) (h := by rw [h]; simp)
    simp [h] at this
    exact this.symm
  rw [this]
theorem mark_some (s : ByteArray) (hne : L s ≠ []) (k : Nat) (hk : 2 ≤ k) : tokens_mark.f k s = some ((mark (L s) : Nat) : Int) := by
  obtain ⟨k, rfl⟩ : ∃ n, k = n + 2 := ⟨k - 2, by omega⟩
  have hl := L_len s
  cases hL : L s with
  | nil => exact absurd hL hne
  | cons c r =>
    rw [hL] at hl
    simp only [List.length_cons] at hl
    have hb := bt_head s c r hL
    have j0 : ∀ b, tokens_mark.j0 (k + 2) s c.toNat b = if b = true then some 1 else if (c.toNat : Int) = 60 then tokens_mark.j1 (k + 1) s ((c.toNat : Int) == 60) else tokens_mark.j1 (k + 1) s ((c.toNat : Int) == 62) := fun b => rfl
    have j1 : ∀ b, tokens_mark.j1 (k + 1) s b = if b = true then (if hd 61 r = true then some 2 else some 1) else some 0 := by
      intro b
      simp only [tokens_mark.j1]
      rw [if_pos (show (1 : Int) ≤ (s.size : Int) by omega), prefix_some, Option.bind_some, L_from, hL]
      rfl
    unfold tokens_mark.f
    rw [if_pos (by omega), hb]
    simp only [j0, j1]
    simp only [mark]
    by_cases h1 : c.toNat = 59
    · simp [h1]
    by_cases h2 : c.toNat = 44
    · simp [h2]
    by_cases h3 : c.toNat = 40
    · simp [h3]
    by_cases h4 : c.toNat = 41
    · simp [h4]
    by_cases h5 : c.toNat = 37
    · simp [h5]
    have i1 : ¬ ((c.toNat : Int) = 59) := by omega
    have i2 : ¬ ((c.toNat : Int) = 44) := by omega
    have i3 : ¬ ((c.toNat : Int) = 40) := by omega
    have i4 : ¬ ((c.toNat : Int) = 41) := by omega
    have i5 : ¬ ((c.toNat : Int) = 37) := by omega
    have q5 : (((c.toNat : Nat) : Int) == 37) = false := beq_eq_false_iff_ne.2 i5
    rw [if_neg i1, if_neg i2, if_neg i3, if_neg i4, q5, if_neg (by simp)]
    by_cases h6 : c.toNat = 60
    · simp only [h6]
      cases r with
      | nil => simp [hd]
      | cons d r => by_cases hd' : d.toNat = 61 <;> simp [hd, hd']
    · have i6 : ¬ ((c.toNat : Int) = 60) := by omega
      rw [if_neg i6]
      by_cases h7 : c.toNat = 62
      · simp only [h7]
        cases r with
        | nil => simp [hd]
        | cons d r => by_cases hd' : d.toNat = 61 <;> simp [hd, hd']
      · have q7 : (((c.toNat : Nat) : Int) == 62) = false := beq_eq_false_iff_ne.2 (show ¬ ((c.toNat : Int) = 62) by omega)
        rw [q7]
        simp [h1, h2, h3, h4, h5, h6, h7]
end Go.Proofs.YthpnhmefjdfhfaaDoor.Tk
