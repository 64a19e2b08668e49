/- Words, parts and classes: the printed functions come to plain ones over lists of bytes. -/
import Derived.Test.YtlboolhjfffppaaGreatDoorPBLIx14
import Derived.Test.YtlboolhjfffppaaGreatDoorPBLIx2
import Derived.Test.YtlboolhjfffppaaGreatDoorPBLIx13
import Derived.Lib.SplitLaws
import Derived.Lib.Strings
namespace Go.Proofs.YtlboolhjfffppaaGreatDoor.CTr
open Go Go.RowKit Go.Proofs.YtlboolhjfffppaaGreatDoor.PBLI Go.Proofs.YtlboolhjfffppaaGreatDoorW.PrintWords Go.Proofs.YtlboolhjfffppaaGreatDoorW.PrintLast
def lo (c : UInt8) : Bool := decide (97 ≤ c.toNat) && decide (c.toNat ≤ 122)
def dg (c : UInt8) : Bool := decide (48 ≤ c.toNat) && decide (c.toNat ≤ 57)
def wi (c : UInt8) : Bool := lo c || dg c || decide (c.toNat = 95)
def run (p : UInt8 → Bool) (l : List UInt8) : Nat := (l.takeWhile p).length
def part (l : List UInt8) : Nat := if run lo l = 0 then 0 else run wi l
theorem run_le (p : UInt8 → Bool) (l : List UInt8) : run p l ≤ l.length := by
  unfold run; exact (List.takeWhile_sublist p).length_le
abbrev L (s : ByteArray) : List UInt8 := s.data.toList
theorem L_len (s : ByteArray) : (L s).length = s.size := by simp
theorem size_from (s : ByteArray) (a : Nat) : (s.extract a s.size).size = s.size - a := by simp
def Sm (s : ByteArray) : Prop := s.size ≤ 281474976710656
theorem wrap_id {x : Int} (h0 : -9223372036854775808 ≤ x) (h1 : x ≤ 9223372036854775807) : wrap64 x = x := by unfold wrap64; omega
theorem cutN_run (s set : ByteArray) : cutN s set = run (inSet set) (L s) := rfl
theorem set_eq (set : ByteArray) (p : UInt8 → Bool) (h : ((List.range 256).all fun n => inSet set (UInt8.ofNat n) == p (UInt8.ofNat n)) = true) : inSet set = p := by
  funext c
  have := List.all_eq_true.1 h c.toNat (List.mem_range.2 c.toNat_lt)
  simpa using this
theorem run_some (s set : ByteArray) (p : UInt8 → Bool) (hs : Sm s) (hp : inSet set = p) (ha : set.data.toList.all (fun c => decide (c.toNat < 128)) = true) :
    tokens_run.f s set = some ((run p (L s) : Nat) : Int) := by
  unfold tokens_run.f tokens_cutLeft.f
  rw [if_pos ha]
  simp only [Option.bind_some]
  rw [size_from, cutN_run, hp]
  have := run_le p (L s)
  rw [L_len] at this
  unfold Sm at hs
  rw [wrap_id (by omega) (by omega)]
  congr 1; omega
theorem set_lo : inSet (⟨#[97, 98, 99, 100, 101, 102, 103, 104, 105, 106, 107, 108, 109, 110, 111, 112, 113, 114, 115, 116, 117, 118, 119, 120, 121, 122]⟩ : ByteArray) = lo := set_eq _ _ (by decide +kernel)
theorem set_wi : inSet (⟨#[97, 98, 99, 100, 101, 102, 103, 104, 105, 106, 107, 108, 109, 110, 111, 112, 113, 114, 115, 116, 117, 118, 119, 120, 121, 122, 48, 49, 50, 51, 52, 53, 54, 55, 56, 57, 95]⟩ : ByteArray) = wi := set_eq _ _ (by decide +kernel)
theorem run_lo (s : ByteArray) (hs : Sm s) : tokens_run.f s (⟨#[97, 98, 99, 100, 101, 102, 103, 104, 105, 106, 107, 108, 109, 110, 111, 112, 113, 114, 115, 116, 117, 118, 119, 120, 121, 122]⟩ : ByteArray) = some ((run lo (L s) : Nat) : Int) := run_some _ _ _ hs set_lo (by decide +kernel)
theorem run_wi (s : ByteArray) (hs : Sm s) : tokens_run.f s (⟨#[97, 98, 99, 100, 101, 102, 103, 104, 105, 106, 107, 108, 109, 110, 111, 112, 113, 114, 115, 116, 117, 118, 119, 120, 121, 122, 48, 49, 50, 51, 52, 53, 54, 55, 56, 57, 95]⟩ : ByteArray) = some ((run wi (L s) : Nat) : Int) := run_some _ _ _ hs set_wi (by decide +kernel)
theorem part_some (s : ByteArray) (hs : Sm s) : tokens_part.f s = some ((part (L s) : Nat) : Int) := by
  unfold tokens_part.f
  rw [run_lo s hs, Option.bind_some]
  by_cases h : run lo (L s) = 0
  · rw [if_pos (by omega)]; simp [part, h]
  · rw [if_neg (by omega), run_wi s hs, Option.bind_some]; simp [part, h]
theorem wrap_add1 (a : Nat) (h : a ≤ 1125899906842624) : wrap64 ((a : Int) + 1) = ((a + 1 : Nat) : Int) := by unfold wrap64; omega
def nameOk (l : List UInt8) : Bool := decide (0 < l.length) && (decide (l.length ≤ 24) && (decide (part l = l.length) && !amongW 29 l))
theorem word_val (s : ByteArray) : tokens_Word.f s = some (nameOk (L s)) := by
  have hl := L_len s
  unfold tokens_Word.f nameOk
  by_cases h0 : s.size = 0
  · rw [if_pos h0]; simp [h0]
  · rw [if_neg h0]
    by_cases h1 : 24 < s.size
    · rw [if_pos h1]; simp; omega
    · have hd : 0 < (L s).length := by omega
      have hd2 : (L s).length ≤ 24 := by omega
      rw [if_neg h1, part_some s (by unfold Sm; omega), Option.bind_some, decide_eq_true hd, decide_eq_true hd2]
      by_cases h2 : part (L s) = (L s).length
      · rw [if_pos (by omega), decide_eq_true h2]; rfl
      · rw [if_neg (by omega), decide_eq_false h2]; rfl
def bs (l : List UInt8) : ByteArray := ⟨l.toArray⟩
theorem rd_drop (xs : List ByteArray) (i : Nat) (h : i < xs.length) : xs.drop i = rdOf ByteArray.empty xs (i : Int) :: xs.drop (i + 1) := by
  rw [List.drop_eq_getElem_cons h]
  unfold rdOf
  rw [Int.toNat_natCast, List.getD_eq_getElem?_getD, List.getElem?_eq_getElem h]; rfl
end Go.Proofs.YtlboolhjfffppaaGreatDoor.CTr
