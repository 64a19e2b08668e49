/- Words, parts and classes: the printed functions come to plain ones over lists of bytes. -/
import Derived.Test.YtkghkpmolcbmmaaGreatDoorPALLx3
import Derived.Test.YtkghkpmolcbmmaaGreatDoorPALLx2
import Derived.Test.YtkghkpmolcbmmaaGreatDoorPALLx2
import Derived.Lib.SplitLaws
import Derived.Lib.Strings
namespace Go.Proofs.YtkghkpmolcbmmaaGreatDoor.Tr
open Go Go.RowKit Go.Proofs.YtkghkpmolcbmmaaGreatDoor.PALL Go.Proofs.YtkghkpmolcbmmaaGreatDoorW.PrintWords Go.Proofs.YtkghkpmolcbmmaaGreatDoorW.PrintLast
def lo (c : UInt8) : Bool := decide (97 ≤ c.toNat) && decide (c.toNat ≤ 122)
def dg (c : UInt8) : Bool := decide (48 ≤ c.toNat) && decide (c.toNat ≤ 57)
def wi (c : UInt8) : Bool := lo c || dg c || decide (c.toNat = 95)
/-- how many bytes of a kind a text begins with -/
def run (p : UInt8 → Bool) (l : List UInt8) : Nat := (l.takeWhile p).length
def part (l : List UInt8) : Nat := if run lo l = 0 then 0 else run wi l
theorem run_le (p : UInt8 → Bool) (l : List UInt8) : run p l ≤ l.length := by
  unfold run; exact (List.takeWhile_sublist p).length_le
theorem run_nil (p : UInt8 → Bool) : run p [] = 0 := rfl
theorem run_cons (p : UInt8 → Bool) (c : UInt8) (r : List UInt8) : run p (c :: r) = if p c = true then run p r + 1 else 0 := by
  unfold run; rw [List.takeWhile_cons]; split <;> simp
abbrev L (s : ByteArray) : List UInt8 := s.data.toList
theorem L_len (s : ByteArray) : (L s).length = s.size := by simp
theorem L_ext (s : ByteArray) (a b : Nat) : L (s.extract a b) = ((L s).drop a).take (b - a) := Lib.extract_data s a b
theorem L_from (s : ByteArray) (a : Nat) : L (s.extract a s.size) = (L s).drop a := by
  rw [L_ext, List.take_of_length_le]; simp
theorem L_to (s : ByteArray) (b : Nat) : L (s.extract 0 b) = (L s).take b := by rw [L_ext]; simp
theorem size_from (s : ByteArray) (a : Nat) : (s.extract a s.size).size = s.size - a := by simp
theorem L_inj {s t : ByteArray} (h : L s = L t) : s = t := by
  cases s; cases t; simp only [L] at h; congr; exact Array.toList_inj.1 h
/-- small enough for every reckoning with places -/
def Sm (s : ByteArray) : Prop := s.size ≤ 281474976710656
theorem wrap_id {x : Int} (h0 : -9223372036854775808 ≤ x) (h1 : x ≤ 9223372036854775807) : wrap64 x = x := by unfold wrap64; omega
theorem cutN_run (s set : ByteArray) : cutN s set = run (inSet set) (L s) := rfl
/-- all of an ASCII set, byte by byte -/
theorem set_eq (set : ByteArray) (p : UInt8 → Bool) (h : ((List.range 256).all fun n => inSet set (UInt8.ofNat n) == p (UInt8.ofNat n)) = true) : inSet set = p := by
  funext c
  have := List.all_eq_true.1 h c.toNat (List.mem_range.2 c.toNat_lt)
  simpa using this
theorem run_some (s set : ByteArray) (p : UInt8 → Bool) (hs : Sm s) (hp : inSet set = p) (ha : set.data.toList.all (fun c => decide (c.toNat < 128)) = true) :
    tokens_run.f s set = some ((run p (L s) : Nat) : Int) := by
  unfold tokens_run.f tokens_cutLeft.f
  rw [if_pos ha]
  simp only [Option.bind_some]
  rw [size_from, cutN_run, hp]
  have := run_le p (L s)
  rw [L_len] at this
  unfold Sm at hs
  rw [wrap_id (by omega) (by omega)]
  congr 1; omega
theorem set_lo : inSet (⟨#[97, 98, 99, 100, 101, 102, 103, 104, 105, 106, 107, 108, 109, 110, 111, 112, 113, 114, 115, 116, 117, 118, 119, 120, 121, 122]⟩ : ByteArray) = lo := set_eq _ _ (by decide +kernel)
theorem set_wi : inSet (⟨#[97, 98, 99, 100, 101, 102, 103, 104, 105, 106, 107, 108, 109, 110, 111, 112, 113, 114, 115, 116, 117, 118, 119, 120, 121, 122, 48, 49, 50, 51, 52, 53, 54, 55, 56, 57, 95]⟩ : ByteArray) = wi := set_eq _ _ (by decide +kernel)
theorem run_lo (s : ByteArray) (hs : Sm s) : tokens_run.f s (⟨#[97, 98, 99, 100, 101, 102, 103, 104, 105, 106, 107, 108, 109, 110, 111, 112, 113, 114, 115, 116, 117, 118, 119, 120, 121, 122]⟩ : ByteArray) = some ((run lo (L s) : Nat) : Int) := run_some _ _ _ hs set_lo (by decide +kernel)
theorem run_wi (s : ByteArray) (hs : Sm s) : tokens_run.f s (⟨#[97, 98, 99, 100, 101, 102, 103, 104, 105, 106, 107, 108, 109, 110, 111, 112, 113, 114, 115, 116, 117, 118, 119, 120, 121, 122, 48, 49, 50, 51, 52, 53, 54, 55, 56, 57, 95]⟩ : ByteArray) = some ((run wi (L s) : Nat) : Int) := run_some _ _ _ hs set_wi (by decide +kernel)
theorem part_some (s : ByteArray) (hs : Sm s) : tokens_part.f s = some ((part (L s) : Nat) : Int) := by
  unfold tokens_part.f
  rw [run_lo s hs, Option.bind_some]
  by_cases h : run lo (L s) = 0
  · rw [if_pos (by omega)]; simp [part, h]
  · rw [if_neg (by omega), run_wi s hs, Option.bind_some]; simp [part, h]
theorem wrap_add1 (a : Nat) (h : a ≤ 1125899906842624) : wrap64 ((a : Int) + 1) = ((a + 1 : Nat) : Int) := by unfold wrap64; omega
def nameOk (l : List UInt8) : Bool := decide (0 < l.length) && (decide (l.length ≤ 24) && (decide (part l = l.length) && !amongW 29 l))
theorem word_val (s : ByteArray) : tokens_Word.f s = some (nameOk (L s)) := by
  have hl := L_len s
  unfold tokens_Word.f nameOk
  by_cases h0 : s.size = 0
  · rw [if_pos h0]; simp [h0]
  · rw [if_neg h0]
    by_cases h1 : 24 < s.size
    · rw [if_pos h1]; simp; omega
    · have hd : 0 < (L s).length := by omega
      have hd2 : (L s).length ≤ 24 := by omega
      rw [if_neg h1, part_some s (by unfold Sm; omega), Option.bind_some, decide_eq_true hd, decide_eq_true hd2]
      by_cases h2 : part (L s) = (L s).length
      · rw [if_pos (by omega), decide_eq_true h2]; rfl
      · rw [if_neg (by omega), decide_eq_false h2]; rfl
/-- a text cut at each instance of one byte -/
def splitL (c : UInt8) : List UInt8 → List (List UInt8)
  | [] => [[]]
  | b :: l => if b = c then [] :: splitL c l else match splitL c l with
    | [] => [[b]]
    | h :: t => (b :: h) :: t
theorem splitL_ne (c : UInt8) : ∀ l, splitL c l ≠ []
  | [] => by simp [splitL]
  | b :: l => by
    rw [splitL]
    split
    · simp
    · split <;> simp
theorem splitK_one (c : UInt8) : ∀ l : List UInt8, Lib.splitK [c] 0 (Lib.count l [c]) l = splitL c l
  | [] => by rw [Lib.count_miss (by simp [Lib.index])]; rfl
  | b :: l => by
    have ih := splitK_one c l
    by_cases h : b = c
    · subst h
      have hix : Lib.index (b :: l) [b] = 0 := by rw [Lib.index]; simp [List.isPrefixOf]
      rw [Lib.count_cons_eq, Nat.add_comm, Lib.splitK, hix, splitL, if_pos rfl, if_neg (by decide), ← ih]; rfl
    · have hp : ([c] : List UInt8).isPrefixOf (b :: l) = false := by simp [List.isPrefixOf, Ne.symm h]
      have hix : Lib.index (b :: l) [c] = if Lib.index l [c] == -1 then -1 else Lib.index l [c] + 1 := by rw [Lib.index, hp]; simp
      rw [Lib.count_cons_ne b c l h, splitL, if_neg h]
      by_cases hm : Lib.index l [c] = -1
      · rw [Lib.count_miss hm] at ih ⊢
        rw [Lib.splitK] at ih ⊢
        rw [← ih]
      · have hge := Lib.index_ge l [c]
        obtain ⟨j, hj⟩ : ∃ j : Nat, Lib.index l [c] = j := ⟨(Lib.index l [c]).toNat, by omega⟩
        have hix' : Lib.index (b :: l) [c] = ((j + 1 : Nat) : Int) := by rw [hix, if_neg (fun e => hm (beq_iff_eq.1 e)), hj]; omega
        rw [Lib.count_hit (by simp) hj, Nat.add_comm] at ih ⊢
        rw [Lib.splitK, hj, if_neg (fun e => by have := beq_iff_eq.1 e; omega)] at ih
        rw [Lib.splitK, hix', if_neg (fun e => by have := beq_iff_eq.1 e; omega), ← ih]
        rfl
def bs (l : List UInt8) : ByteArray := ⟨l.toArray⟩
theorem bs_of (s : ByteArray) : bs s.data.toList = s := rfl
theorem of_bs (l : List UInt8) : (bs l).data.toList = l := rfl
/-- strings.Split at the point, as the list of bytes has it -/
theorem splitB_one (c : UInt8) (s : ByteArray) : Lib.splitB ⟨#[c]⟩ 0 (Lib.countB s ⟨#[c]⟩) s = (splitL c s.data.toList).map bs := by
  have h : (Lib.splitB ⟨#[c]⟩ 0 (Lib.countB s ⟨#[c]⟩) s).map (·.data.toList) = splitL c s.data.toList := (Lib.splitB_data _ _ _ _).trans (splitK_one c _)
  rw [← h, List.map_map]
  exact (List.map_id' _).symm
/-- the parts put together again -/
def joinL (c : UInt8) : List (List UInt8) → List UInt8
  | [] => []
  | [h] => h
  | h :: g :: t => h ++ c :: joinL c (g :: t)
theorem join_cons (c : UInt8) (b : UInt8) (h : List UInt8) (t : List (List UInt8)) : joinL c ((b :: h) :: t) = b :: joinL c (h :: t) := by
  cases t <;> rfl
theorem join_split (c : UInt8) : ∀ l, joinL c (splitL c l) = l
  | [] => rfl
  | b :: l => by
    have ih := join_split c l
    rw [splitL]
    by_cases h : b = c
    · rw [if_pos h]
      cases hs : splitL c l with
      | nil => exact absurd hs (splitL_ne c l)
      | cons g t => rw [hs] at ih; rw [joinL, ih, h]; rfl
    · rw [if_neg h]
      cases hs : splitL c l with
      | nil => exact absurd hs (splitL_ne c l)
      | cons g t => rw [hs] at ih; rw [join_cons, ih]
theorem split_free (c : UInt8) : ∀ h : List UInt8, c ∉ h → splitL c h = [h]
  | [], _ => rfl
  | b :: h, hc => by
    have hb : ¬ b = c := fun e => hc (by rw [e]; exact List.mem_cons_self)
    rw [splitL, if_neg hb, split_free c h (fun e => hc (List.mem_cons_of_mem _ e))]
theorem split_at (c : UInt8) : ∀ (h r : List UInt8), c ∉ h → splitL c (h ++ c :: r) = h :: splitL c r
  | [], r, _ => by rw [List.nil_append, splitL, if_pos rfl]
  | b :: h, r, hc => by
    have hb : ¬ b = c := fun e => hc (by rw [e]; exact List.mem_cons_self)
    rw [List.cons_append, splitL, if_neg hb, split_at c h r (fun e => hc (List.mem_cons_of_mem _ e))]
theorem split_join (c : UInt8) : ∀ (ps : List (List UInt8)), ps ≠ [] → (∀ p ∈ ps, c ∉ p) → splitL c (joinL c ps) = ps
  | [], h, _ => absurd rfl h
  | [p], _, h => split_free c p (h p List.mem_cons_self)
  | p :: q :: t, _, h => by
    rw [joinL, split_at c p _ (h p List.mem_cons_self), split_join c (q :: t) (by simp) (fun x hx => h x (List.mem_cons_of_mem _ hx))]
theorem split_mem (c : UInt8) : ∀ (l : List UInt8), ∀ p ∈ splitL c l, c ∉ p
  | [], p, hp => by
    obtain rfl : p = [] := by simpa [splitL] using hp
    simp
  | b :: l, p, hp => by
    have ih := split_mem c l
    rw [splitL] at hp
    by_cases h : b = c
    · rw [if_pos h] at hp
      rcases List.mem_cons.1 hp with rfl | hp
      · simp
      · exact ih p hp
    · rw [if_neg h] at hp
      cases hs : splitL c l with
      | nil => exact absurd hs (splitL_ne c l)
      | cons g t =>
        rw [hs] at hp ih
        rcases List.mem_cons.1 hp with rfl | hp
        · intro hm
          rcases List.mem_cons.1 hm with e | hm
          · exact h e.symm
          · exact ih g List.mem_cons_self hm
        · exact ih p (List.mem_cons_of_mem _ hp)
/-- the parts of a text -/
def partsV (s : ByteArray) : List ByteArray := (splitL 46 (L s)).map bs
def goodW (p : ByteArray) : Bool := nameOk (L p)
def classOk (s : ByteArray) : Bool := decide ((partsV s).length ≤ 8) && (partsV s).all goodW
def classV (s : ByteArray) : List ByteArray × Int := if classOk s = true then (partsV s, 0) else ([], 140)
theorem split_some (s : ByteArray) (hs : s.size < 4294967281) : strings_Split.f s (⟨#[46]⟩ : ByteArray) = some (partsV s) := by
  unfold strings_Split.f
  rw [if_pos ⟨hs, by decide⟩, splitB_one]; rfl
theorem rd_drop (xs : List ByteArray) (i : Nat) (h : i < xs.length) : xs.drop i = rdOf ByteArray.empty xs (i : Int) :: xs.drop (i + 1) := by
  rw [List.drop_eq_getElem_cons h]
  unfold rdOf
  rw [Int.toNat_natCast, List.getD_eq_getElem?_getD, List.getElem?_eq_getElem h]; rfl
theorem class_loop (xs : List ByteArray) (hx : xs.length ≤ 8) : ∀ (m i k : Nat), i + m = xs.length →
    traits_Class.l0 (k + m + 1) xs xs (xs.length : Int) (i : Int) = some (if (xs.drop i).all goodW = true then (xs, 0) else ([], 140))
  | 0, i, k, hi => by
    rw [traits_Class.l0, if_neg (by omega), List.drop_of_length_le (by omega)]; rfl
  | m + 1, i, k, hi => by
    rw [show k + (m + 1) + 1 = (k + m + 1) + 1 from by omega, traits_Class.l0, if_pos (by omega), if_pos (by omega), if_pos (by omega), word_val, Option.bind_some, rd_drop xs i (by omega), List.all_cons]
    by_cases h : nameOk (L (rdOf ByteArray.empty xs (i : Int))) = true
    · rw [if_pos h, wrap_add1 i (by omega), class_loop xs hx m (i + 1) k (by omega)]
      rw [show goodW (rdOf ByteArray.empty xs (i : Int)) = true from h, Bool.true_and]
    · rw [if_neg h]
      rw [show goodW (rdOf ByteArray.empty xs (i : Int)) = false from Bool.eq_false_iff.2 h, Bool.false_and, if_neg Bool.false_ne_true]
theorem class_some (s : ByteArray) (hs : s.size < 4294967281) (k : Nat) (hk : 10 ≤ k) : traits_Class.f k s = some (classV s) := by
  unfold traits_Class.f classV classOk
  rw [split_some s hs, Option.bind_some]
  by_cases h : (partsV s).length ≤ 8
  · rw [if_neg (by omega), decide_eq_true h, Bool.true_and]
    obtain ⟨k, rfl⟩ : ∃ j, k = j + (partsV s).length + 1 := ⟨k - (partsV s).length - 1, by omega⟩
    exact class_loop (partsV s) h (partsV s).length 0 k (by omega)
  · rw [if_pos (by omega), decide_eq_false h, Bool.false_and, if_neg Bool.false_ne_true]
def coversV (over cls : ByteArray) : Bool := classOk cls && (decide (over.size = 0) || (classOk over && decide (partsV over <+: partsV cls)))
theorem L_bs (l : List UInt8) : L (bs l) = l := rfl
theorem bs_L (s : ByteArray) : bs (L s) = s := rfl
theorem classOk_iff (s : ByteArray) : classOk s = true ↔ (partsV s).length ≤ 8 ∧ ∀ p ∈ partsV s, goodW p = true := by
  unfold classOk; rw [Bool.and_eq_true, decide_eq_true_iff, List.all_eq_true]
theorem coversV_iff (over cls : ByteArray) : coversV over cls = true ↔ classOk cls = true ∧ (over.size = 0 ∨ (classOk over = true ∧ partsV over <+: partsV cls)) := by
  unfold coversV; rw [Bool.and_eq_true, Bool.or_eq_true, decide_eq_true_iff, Bool.and_eq_true, decide_eq_true_iff]
theorem good_size (p : ByteArray) (h : goodW p = true) : 1 ≤ p.size ∧ p.size ≤ 24 := by
  unfold goodW nameOk at h
  simp only [Bool.and_eq_true, decide_eq_true_iff, L_len] at h
  omega
theorem class_pos (s : ByteArray) (h : classOk s = true) : 1 ≤ s.size := by
  have h := (classOk_iff s).1 h
  rcases Nat.eq_zero_or_pos s.size with h0 | h0
  · have hL : L s = [] := List.eq_nil_of_length_eq_zero (by rw [L_len]; exact h0)
    have := h.2 (bs []) (by unfold partsV; rw [hL]; simp [splitL])
    have := (good_size _ this).1
    exact absurd this (by decide)
  · exact h0
theorem parts_ne (s : ByteArray) : partsV s ≠ [] := by
  unfold partsV; intro h; exact splitL_ne 46 (L s) (List.map_eq_nil_iff.1 h)
/-- parts put together are a text of these parts -/
theorem parts_join (ps : List ByteArray) (hne : ps ≠ []) (h : ∀ p ∈ ps, (46 : UInt8) ∉ L p) : partsV (bs (joinL 46 (ps.map L))) = ps := by
  unfold partsV
  rw [L_bs, split_join 46 _ (by simpa using hne) (by
    intro p hp
    obtain ⟨q, hq, rfl⟩ := List.mem_map.1 hp
    exact h q hq), List.map_map]
  exact List.map_id' ps
theorem parts_free (s : ByteArray) : ∀ p ∈ partsV s, (46 : UInt8) ∉ L p := by
  intro p hp
  obtain ⟨q, hq, rfl⟩ := List.mem_map.1 hp
  exact split_mem 46 _ q hq
theorem join_parts (s : ByteArray) : bs (joinL 46 ((partsV s).map L)) = s := by
  unfold partsV
  rw [List.map_map, show (L ∘ bs) = id from rfl, List.map_id, join_split]; rfl
/-- the first parts of a class are a class that covers it -/
theorem covers_take (c : ByteArray) (h : classOk c = true) (i : Nat) (hi : i < (partsV c).length) : coversV (bs (joinL 46 (((partsV c).take (i + 1)).map L))) c = true := by
  have hp := parts_join ((partsV c).take (i + 1)) (by intro e; have := congrArg List.length e; rw [List.length_take, List.length_nil] at this; omega) (fun p hp => parts_free c p (List.mem_of_mem_take hp))
  have hc := (classOk_iff c).1 h
  refine (coversV_iff _ _).2 ⟨h, Or.inr ⟨(classOk_iff _).2 ?_, ?_⟩⟩
  · rw [hp]; exact ⟨by rw [List.length_take]; omega, fun p hp => hc.2 p (List.mem_of_mem_take hp)⟩
  · rw [hp]; exact List.take_prefix _ _
theorem covers_self (c : ByteArray) (h : classOk c = true) : coversV c c = true := (coversV_iff _ _).2 ⟨h, Or.inr ⟨h, List.prefix_refl _⟩⟩
theorem covers_nil (c : ByteArray) (h : classOk c = true) : coversV (⟨#[]⟩ : ByteArray) c = true := (coversV_iff _ _).2 ⟨h, Or.inl rfl⟩
theorem covers_no (a c : ByteArray) (h : classOk c = false) : coversV a c = false := by unfold coversV; rw [h, Bool.false_and]
theorem covers_trans (a b c : ByteArray) (h1 : coversV a b = true) (h2 : coversV b c = true) : coversV a c = true := by
  obtain ⟨g1, g2⟩ := (coversV_iff _ _).1 h1
  obtain ⟨g3, g4⟩ := (coversV_iff _ _).1 h2
  have hb := class_pos b g1
  refine (coversV_iff _ _).2 ⟨g3, ?_⟩
  rcases g2 with g2 | ⟨g2, g5⟩
  · exact Or.inl g2
  · rcases g4 with g4 | ⟨_, g6⟩
    · omega
    · exact Or.inr ⟨g2, g5.trans g6⟩
theorem covers_two (a b c : ByteArray) (h1 : coversV a c = true) (h2 : coversV b c = true) (ha : a.size ≠ 0) (hb : b.size ≠ 0) : coversV a b = true ∨ coversV b a = true := by
  obtain ⟨_, g2⟩ := (coversV_iff _ _).1 h1
  obtain ⟨_, g4⟩ := (coversV_iff _ _).1 h2
  rcases g2 with g2 | ⟨g2, g5⟩
  · exact absurd g2 ha
  · rcases g4 with g4 | ⟨g4, g6⟩
    · exact absurd g4 hb
    · rcases List.prefix_or_prefix_of_prefix g5 g6 with g | g
      · exact Or.inl ((coversV_iff _ _).2 ⟨g4, Or.inr ⟨g2, g⟩⟩)
      · exact Or.inr ((coversV_iff _ _).2 ⟨g2, Or.inr ⟨g4, g⟩⟩)
/-- the text of the first i + 1 parts, out of that of the first i -/
theorem join_snoc (c : UInt8) : ∀ (ps : List (List UInt8)) (q : List UInt8), ps ≠ [] → joinL c (ps ++ [q]) = joinL c ps ++ [c] ++ q
  | [], _, h => absurd rfl h
  | [p], q, _ => by simp [joinL]
  | p :: r :: t, q, _ => by
    rw [List.cons_append, List.cons_append, joinL, ← List.cons_append, join_snoc c (r :: t) q (by simp), joinL]
    simp
end Go.Proofs.YtkghkpmolcbmmaaGreatDoor.Tr
