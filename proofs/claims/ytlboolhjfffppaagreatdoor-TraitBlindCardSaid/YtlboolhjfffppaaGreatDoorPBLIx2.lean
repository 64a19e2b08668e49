-- Written by this session's program (wip/tools/pr.py over the kit's print).
import Derived.Test.YtlboolhjfffppaaGreatDoorPh
import Derived.Test.YtlboolhjfffppaaGreatDoorPBLIx0
namespace Go.Proofs.YtlboolhjfffppaaGreatDoor.PBLI
open Go.RowKit Go.Proofs.YtlboolhjfffppaaGreatDoorW.PrintWords Go.Proofs.YtlboolhjfffppaaGreatDoorW.PrintLast Go.Proofs.YtlboolhjfffppaaGreatDoorW.PrintMore
attribute [local go_sem] max2_int min2_int max_two min_two max_three min_three max_four min_four
set_option linter.unusedVariables false
set_option linter.unusedSimpArgs false
def inSet (set : ByteArray) (c : UInt8) : Bool := set.data.toList.contains c
def cutN (s set : ByteArray) : Nat := (s.data.toList.takeWhile (inSet set)).length
theorem tw_step {α : Type} (p : α → Bool) : ∀ (l : List α) (i : Nat) (h : i < l.length), i ≤ (l.takeWhile p).length → (p l[i] = true → i + 1 ≤ (l.takeWhile p).length) ∧ (p l[i] = false → (l.takeWhile p).length = i)
 | [], i, h, _ => absurd h (by simp)
 | c :: r, 0, h, _ => by
  simp only [List.getElem_cons_zero, List.takeWhile_cons]
  refine ⟨fun e => by rw [if_pos e]; simp, fun e => by rw [if_neg (by simp [e])]; rfl⟩
 | c :: r, i + 1, h, hi => by
  simp only [List.getElem_cons_succ, List.takeWhile_cons] at hi ⊢
  by_cases hc : p c = true
  ·rw [if_pos hc] at hi ⊢
   simp only [List.length_cons] at hi h ⊢
   have := tw_step p r i (by omega) (by omega)
   exact ⟨fun e => by have := this.1 e; omega, fun e => by have := this.2 e; omega⟩
  ·rw [if_neg hc] at hi; simp at hi
theorem cutN_le (s set : ByteArray) : cutN s set ≤ s.size := (List.takeWhile_sublist _).length_le
def anyIn (set : ByteArray) (q : Nat) (r : Int) : Bool := (set.data.toList.take q).any fun d => r == (d.toNat : Int)
theorem anyIn_succ (set : ByteArray) (q : Nat) (r : Int) (h : q < set.size) : anyIn set (q + 1) r = (anyIn set q r || (r == ((set[q]'h).toNat : Int))) := by
 unfold anyIn
 rw [List.take_succ_eq_append_getElem (by simpa using h), List.any_append]
 simp; rfl
theorem anyIn_byte (s set : ByteArray) (pos : Nat) (h : pos < s.size) (ha : ∀ j, ∀ h : j < set.size, (set[j]'h).toNat < 128) :
  anyIn set set.size ((Utf8.decode s pos).1 : Nat) = inSet set (s[pos]'h) := by
 rw [Bool.eq_iff_iff]
 unfold anyIn inSet
 rw [List.take_of_length_le (by simp), List.any_eq_true, List.contains_iff_mem]
 by_cases hs : (s[pos]'h).toNat < 128
 ·rw [decode_ascii s pos h hs]
  constructor
  ·rintro ⟨d, hd, e⟩
   have e1 : (s[pos]'h).toNat = d.toNat := by have := beq_iff_eq.1 e; omega
   rw [UInt8.toNat_inj.1 e1]; exact hd
  ·intro hm; exact ⟨_, hm, by simp⟩
 ·have hi := (decode_high s pos h (by omega)).1
  have hall : ∀ d ∈ set.data.toList, d.toNat < 128 := by
   intro d hd
   obtain ⟨j, hj, rfl⟩ := List.getElem_of_mem hd
   exact ha j (by simpa using hj)
  constructor
  ·rintro ⟨d, hd, e⟩
   have e1 : (Utf8.decode s pos).1 = d.toNat := by have := beq_iff_eq.1 e; omega
   have := hall d hd; omega
  ·intro hm; exact absurd (hall _ hm) (by omega)
theorem cut_step (s set : ByteArray) (pos : Nat) (h : pos < s.size) (hp : pos ≤ cutN s set) (hi : inSet set (s[pos]'h) = true) : pos + 1 ≤ cutN s set :=
 (tw_step (inSet set) s.data.toList pos (by simpa using h) hp).1 hi
theorem cut_stop (s set : ByteArray) (pos : Nat) (h : pos < s.size) (hp : pos ≤ cutN s set) (hi : inSet set (s[pos]'h) = false) : cutN s set = pos :=
 (tw_step (inSet set) s.data.toList pos (by simpa using h) hp).2 hi
theorem width_in (s set : ByteArray) (pos : Nat) (h : pos < s.size) (ha : ∀ j, ∀ h : j < set.size, (set[j]'h).toNat < 128) (hi : inSet set (s[pos]'h) = true) : (Utf8.decode s pos).2 = 1 := by
 have hm : s[pos]'h ∈ set.data.toList := by unfold inSet at hi; exact List.contains_iff_mem.1 hi
 obtain ⟨j, hj, e⟩ := List.getElem_of_mem hm
 have : (s[pos]'h).toNat < 128 := by rw [← e]; exact ha j (by simpa using hj)
 rw [decode_ascii s pos h this]
theorem iterPos_at {w : World} {k : Nat} {s : ByteArray} {p : Nat} (h : w.heap[k]? = some (.stringIter s p)) : w.iterPos k = p := by simp [World.iterPos, h]
theorem ret_str {a b : ByteArray} (h : a = b) : Ending.returned (.string a) = .returned (.string b) := by rw [h]
def tokens_cutLeft.f (a0 a1 : ByteArray) : Option ByteArray := if a1.data.toList.all (fun c => decide (c.toNat < 128)) = true then some (a0.extract (cutN a0 a1) a0.size) else none
set_option maxRecDepth 100000 in
set_option maxHeartbeats 1000000 in
theorem tokens_cutLeft.calls_ascii (a0 : ByteArray) (a1 : ByteArray) (w : World) (ha : ∀ j, ∀ h : j < a1.size, (a1[j]'h).toNat < 128) :
  Calls Tryz.prog 128 #[.string a0, .string a1] w fun e w' => e = .returned (.string (a0.extract (cutN a0 a1) a0.size)) ∧ Below w.heap.size w w' := by
 go_enter Tryz.func128, Tryz.ntmps128
 go_wp2
 go_loopw [7] (fun _ wr => ∃ pos : Nat, pos ≤ cutN a0 a1 ∧ wr.heap[w.heap.size]? = some (.stringIter a0 pos) ∧ Below w.heap.size w wr) (fun _ wr => a0.size - wr.iterPos w.heap.size)
 case atStart => exact ⟨0, Nat.zero_le _, World.iter_heap w a0 0, (Below.refl _ _).alloc (Nat.le_refl _) _⟩
 case round =>
  obtain ⟨pos, hpos, hit, hb⟩ := hrel
  obtain ⟨wo, rfl⟩ : ∃ wo : World, wo = wr := ⟨_, rfl⟩
  by_cases hp : pos < a0.size
  ·have hnx : ∀ ty, (Instr.next (.pointer (some ⟨w.heap.size, 0, none⟩)) true ty).run Tryz.prog wo = _ := fun ty => Lib.run_next_any_at wo w.heap.size a0 pos ty hit hp
   go_wp2
   have hit1 := Lib.iterAt_heap wo w.heap.size a0 pos (pos + (Utf8.decode a0 pos).2) hit
   have hb1 := Lib.below_iterAt hb (Nat.le_refl _) a0 (pos + (Utf8.decode a0 pos).2)
   have hm0 := Lib.hid (iterPos_at hit)
   obtain ⟨W1, hW1⟩ : ∃ W1, W1 = wo.iterAt w.heap.size a0 (pos + (Utf8.decode a0 pos).2) := ⟨_, rfl⟩
   rw [← hW1] at hit1 hb1 ⊢
   clear hnx hW1 hit hb
   have hlt : w.heap.size < W1.heap.size := (Array.getElem?_eq_some_iff.1 hit1).1
   go_loopw [7] (fun v wi => ∃ q : Nat, q ≤ a1.size ∧ v = .bool (anyIn a1 q ((Utf8.decode a0 pos).1 : Nat)) ∧ wi.heap[W1.heap.size]? = some (.stringIter a1 q) ∧ wi.heap[w.heap.size]? = some (.stringIter a0 (pos + (Utf8.decode a0 pos).2)) ∧ Below w.heap.size w wi) (fun _ wi => a1.size - wi.iterPos W1.heap.size)
   case atStart => exact ⟨0, Nat.zero_le _, rfl, World.iter_heap W1 a1 0, (Lib.alloc_old W1 _ _ hlt).trans hit1, hb1.alloc (by omega) _⟩
   case round =>
    obtain ⟨q, hq, rfl, hi1, hi0, hbi⟩ := hrel
    obtain ⟨wi, rfl⟩ : ∃ wi : World, wi = wr := ⟨_, rfl⟩
    by_cases hqs : q < a1.size
    ·have hnx : ∀ ty, (Instr.next (.pointer (some ⟨W1.heap.size, 0, none⟩)) true ty).run Tryz.prog wi = _ := fun ty => Lib.run_next_ascii_at wi W1.heap.size a1 q ty hi1 hqs (ha q hqs)
     have HS := Lib.hid (anyIn_succ a1 q ((Utf8.decode a0 pos).1 : Nat) hqs)
     have hm1 := Lib.hid (iterPos_at hi1)
     cases hin : anyIn a1 q ((Utf8.decode a0 pos).1 : Nat)
     all_goals
      have Hin := Lib.hid hin
      clear hin
      go_wp2
      go_roundw
      case rel => exact ⟨q + 1, by omega, by rw [HS.out, Hin.out]; first | rfl | simp, Lib.iterAt_heap wi W1.heap.size a1 q (q + 1) hi1, (Lib.iterAt_other wi W1.heap.size w.heap.size a1 (q + 1) (by omega)).trans hi0, Lib.below_iterAt hbi (by omega) a1 (q + 1)⟩
      case measure => rw [iterPos_at (Lib.iterAt_heap wi W1.heap.size a1 q (q + 1) hi1), hm1.out]; omega
    ·have hnx : ∀ ty, (Instr.next (.pointer (some ⟨W1.heap.size, 0, none⟩)) true ty).run Tryz.prog wi = _ := fun ty => Lib.run_next_end_at wi W1.heap.size a1 q ty hi1 hqs
     obtain rfl : q = a1.size := by omega
     have hab := anyIn_byte a0 a1 pos hp ha
     cases hin : anyIn a1 a1.size ((Utf8.decode a0 pos).1 : Nat)
     ·rw [hin] at hab
      have hc := Lib.hid (cut_stop a0 a1 pos hp hpos hab.symm)
      clear hab hin
      go_wp2
      go_ret
      exact ⟨ret_str (by rw [hc.out]), hbi⟩
     ·rw [hin] at hab
      have hc := cut_step a0 a1 pos hp hpos hab.symm
      have hw := width_in a0 a1 pos hp ha hab.symm
      rw [hw] at hi0
      clear hab hin hw
      go_wp2
      go_roundw
      case rel => exact ⟨pos + 1, hc, hi0, hbi⟩
      case measure => rw [iterPos_at hi0, hm0.out]; omega
  ·have hnx : ∀ ty, (Instr.next (.pointer (some ⟨w.heap.size, 0, none⟩)) true ty).run Tryz.prog wo = _ := fun ty => Lib.run_next_end_at wo w.heap.size a0 pos ty hit hp
   go_wp2
   go_ret
   have := cutN_le a0 a1
   exact ⟨ret_str (by rw [show cutN a0 a1 = a0.size by omega]; apply ByteArray.ext; simp), hb⟩
theorem tokens_cutLeft.calls (a0 : ByteArray) (a1 : ByteArray) (r : ByteArray) (w : World) (h : tokens_cutLeft.f a0 a1 = some r) :
  Calls Tryz.prog 128 #[.string a0, .string a1] w fun e w' => e = .returned (.string r) ∧ Below w.heap.size w w' := by
 unfold tokens_cutLeft.f at h
 by_cases hall : a1.data.toList.all (fun c => decide (c.toNat < 128)) = true
 ·rw [if_pos hall] at h
  obtain rfl := Option.some.inj h
  refine tokens_cutLeft.calls_ascii a0 a1 w fun j hj => ?_
  have := List.all_eq_true.1 hall (a1[j]'hj) (List.getElem_mem (l := a1.data.toList) (n := j) (by simpa using hj))
  exact of_decide_eq_true this
 ·rw [if_neg hall] at h; cases h
def tokens_run.f (a0 : ByteArray) (a1 : ByteArray) : Option (Int) := (tokens_cutLeft.f a0 a1).bind fun t104 => (some (wrap64 ((a0.size : Int) - (t104.size : Int))))
set_option maxHeartbeats 8000000 in
set_option maxRecDepth 100000 in
theorem tokens_run.calls (a0 : ByteArray) (a1 : ByteArray) (r : Int) (w : World) (h : tokens_run.f a0 a1 = some r) :
  Calls Tryz.prog 103 #[.string a0, .string a1] w fun e w' => e = .returned (.int .i64 r) ∧ Below w.heap.size w w' := by
 have HB := Aside0.mk (Below.refl w.heap.size w)
 have H : ((tokens_cutLeft.f a0 a1).bind fun t104 => (some (wrap64 ((a0.size : Int) - (t104.size : Int))))) = some r := h
 clear h
 replace H := Option.bind_eq_some_iff.mp H
 obtain ⟨t104, A30, H⟩ := H
 replace H : (some (wrap64 ((a0.size : Int) - (t104.size : Int)))) = some r := H
 have A3 := Aside0.mk A30
 clear A30
 obtain rfl := Option.some.inj H
 go_enter Tryz.func103, Tryz.ntmps103
 go_wp2_with (first | ((with_reducible refine gate_callee (f := 128) rfl ?_); refine goesL_ (some 9) rfl rfl Tryz.func128 (by kernel_rfl) rfl #[.string a0, .string a1] rfl (by (try simp only [List.map_toArray, List.map_cons, List.map_nil]); first | done | rfl | (simp only [List.length_drop, List.length_take]; rfl)) ?_; (with_reducible refine (tokens_cutLeft.calls a0 a1 t104 _ A3.out).mono ?_); rintro e w4 ⟨rfl, hb⟩; refine ⟨_, rfl, ?_⟩; have n0_ := Aside0.mk (below_step (hb0_ HB.out) hb); clear HB; have HB := n0_; clear n0_; (try clear hb); (try clear hb2); (try clear hk); (try clear hi)))
 go_ret
 exact ⟨rf_, (hb0_ HB.out)⟩
def tokens_part.f (a0 : ByteArray) : Option (Int) := (tokens_run.f a0 (⟨#[97, 98, 99, 100, 101, 102, 103, 104, 105, 106, 107, 108, 109, 110, 111, 112, 113, 114, 115, 116, 117, 118, 119, 120, 121, 122]⟩ : ByteArray)).bind fun t105 => (if t105 = 0 then (some 0) else ((tokens_run.f a0 (⟨#[97, 98, 99, 100, 101, 102, 103, 104, 105, 106, 107, 108, 109, 110, 111, 112, 113, 114, 115, 116, 117, 118, 119, 120, 121, 122, 48, 49, 50, 51, 52, 53, 54, 55, 56, 57, 95]⟩ : ByteArray)).bind fun t106 => (some t106)))
set_option maxHeartbeats 8000000 in
set_option maxRecDepth 100000 in
theorem tokens_part.calls (a0 : ByteArray) (r : Int) (w : World) (h : tokens_part.f a0 = some r) :
  Calls Tryz.prog 72 #[.string a0] w fun e w' => e = .returned (.int .i64 r) ∧ Below w.heap.size w w' := by
 have HB := Aside0.mk (Below.refl w.heap.size w)
 have H : ((tokens_run.f a0 (⟨#[97, 98, 99, 100, 101, 102, 103, 104, 105, 106, 107, 108, 109, 110, 111, 112, 113, 114, 115, 116, 117, 118, 119, 120, 121, 122]⟩ : ByteArray)).bind fun t105 => (if t105 = 0 then (some 0) else ((tokens_run.f a0 (⟨#[97, 98, 99, 100, 101, 102, 103, 104, 105, 106, 107, 108, 109, 110, 111, 112, 113, 114, 115, 116, 117, 118, 119, 120, 121, 122, 48, 49, 50, 51, 52, 53, 54, 55, 56, 57, 95]⟩ : ByteArray)).bind fun t106 => (some t106)))) = some r := h
 clear h
 replace H := Option.bind_eq_some_iff.mp H
 obtain ⟨t105, A20, H⟩ := H
 replace H : (if t105 = 0 then (some 0) else ((tokens_run.f a0 (⟨#[97, 98, 99, 100, 101, 102, 103, 104, 105, 106, 107, 108, 109, 110, 111, 112, 113, 114, 115, 116, 117, 118, 119, 120, 121, 122, 48, 49, 50, 51, 52, 53, 54, 55, 56, 57, 95]⟩ : ByteArray)).bind fun t106 => (some t106))) = some r := H
 have A2 := Aside0.mk A20
 clear A20
 by_cases c3 : t105 = 0
 ·rw [if_pos c3] at H
  have c3b0 : (t105 == 0) = true := beq_iff_eq.mpr c3
  have c3b1 : (t105 != 0) = false := bne_eq_false_iff_eq.mpr c3
  clear c3
  obtain rfl := Option.some.inj H
  go_enter Tryz.func72, Tryz.ntmps72
  go_wp2_with (first | ((with_reducible refine gate_callee (f := 103) rfl ?_); refine goesL_ (some 4) rfl rfl Tryz.func103 (by kernel_rfl) rfl #[.string a0, .string (⟨#[97, 98, 99, 100, 101, 102, 103, 104, 105, 106, 107, 108, 109, 110, 111, 112, 113, 114, 115, 116, 117, 118, 119, 120, 121, 122]⟩ : ByteArray)] rfl (by (try simp only [List.map_toArray, List.map_cons, List.map_nil]); first | done | rfl | (simp only [List.length_drop, List.length_take]; rfl)) ?_; (with_reducible refine (tokens_run.calls a0 (⟨#[97, 98, 99, 100, 101, 102, 103, 104, 105, 106, 107, 108, 109, 110, 111, 112, 113, 114, 115, 116, 117, 118, 119, 120, 121, 122]⟩ : ByteArray) t105 _ A2.out).mono ?_); rintro e w4 ⟨rfl, hb⟩; refine ⟨_, rfl, ?_⟩; have n0_ := Aside0.mk (below_step (hb0_ HB.out) hb); clear HB; have HB := n0_; clear n0_; (try clear hb); (try clear hb2); (try clear hk); (try clear hi)))
  go_ret
  exact ⟨rf_, (hb0_ HB.out)⟩
 ·rw [if_neg c3] at H
  have c3b0 : (t105 == 0) = false := beq_eq_false_iff_ne.mpr c3
  have c3b1 : (t105 != 0) = true := bne_iff_ne.mpr c3
  replace H := Option.bind_eq_some_iff.mp H
  obtain ⟨t106, A50, H⟩ := H
  replace H : (some t106) = some r := H
  have A5 := Aside0.mk A50
  clear A50
  obtain rfl := Option.some.inj H
  go_enter Tryz.func72, Tryz.ntmps72
  go_wp2_with (first | ((with_reducible refine gate_callee (f := 103) rfl ?_); refine goesL_ (some 4) rfl rfl Tryz.func103 (by kernel_rfl) rfl #[.string a0, .string (⟨#[97, 98, 99, 100, 101, 102, 103, 104, 105, 106, 107, 108, 109, 110, 111, 112, 113, 114, 115, 116, 117, 118, 119, 120, 121, 122]⟩ : ByteArray)] rfl (by (try simp only [List.map_toArray, List.map_cons, List.map_nil]); first | done | rfl | (simp only [List.length_drop, List.length_take]; rfl)) ?_; (with_reducible refine (tokens_run.calls a0 (⟨#[97, 98, 99, 100, 101, 102, 103, 104, 105, 106, 107, 108, 109, 110, 111, 112, 113, 114, 115, 116, 117, 118, 119, 120, 121, 122]⟩ : ByteArray) t105 _ A2.out).mono ?_); rintro e w6 ⟨rfl, hb⟩; refine ⟨_, rfl, ?_⟩; have n0_ := Aside0.mk (below_step (hb0_ HB.out) hb); clear HB; have HB := n0_; clear n0_; (try clear hb); (try clear hb2); (try clear hk); (try clear hi)) | ((with_reducible refine gate_callee (f := 103) rfl ?_); refine goesL_ (some 7) rfl rfl Tryz.func103 (by kernel_rfl) rfl #[.string a0, .string (⟨#[97, 98, 99, 100, 101, 102, 103, 104, 105, 106, 107, 108, 109, 110, 111, 112, 113, 114, 115, 116, 117, 118, 119, 120, 121, 122, 48, 49, 50, 51, 52, 53, 54, 55, 56, 57, 95]⟩ : ByteArray)] rfl (by (try simp only [List.map_toArray, List.map_cons, List.map_nil]); first | done | rfl | (simp only [List.length_drop, List.length_take]; rfl)) ?_; (with_reducible refine (tokens_run.calls a0 (⟨#[97, 98, 99, 100, 101, 102, 103, 104, 105, 106, 107, 108, 109, 110, 111, 112, 113, 114, 115, 116, 117, 118, 119, 120, 121, 122, 48, 49, 50, 51, 52, 53, 54, 55, 56, 57, 95]⟩ : ByteArray) t106 _ A5.out).mono ?_); rintro e w7 ⟨rfl, hb⟩; refine ⟨_, rfl, ?_⟩; have n0_ := Aside0.mk (below_step (hb0_ HB.out) hb); clear HB; have HB := n0_; clear n0_; (try clear hb); (try clear hb2); (try clear hk); (try clear hi)))
  go_ret
  exact ⟨rf_, (hb0_ HB.out)⟩
def keptW : List ByteArray := [⟨#[99, 117, 114, 114, 101, 110, 99, 121]⟩, ⟨#[112, 108, 97, 99, 101]⟩, ⟨#[116, 97, 120]⟩, ⟨#[114, 97, 116, 101]⟩, ⟨#[101, 120, 101, 109, 112, 116]⟩, ⟨#[108, 101, 97, 115, 116]⟩, ⟨#[105, 110]⟩, ⟨#[109, 111, 110, 101, 121]⟩, ⟨#[114, 111, 117, 110, 100]⟩, ⟨#[108, 105, 110, 101]⟩, ⟨#[105, 110, 118, 111, 105, 99, 101]⟩, ⟨#[111, 110]⟩, ⟨#[105, 110, 115, 116, 101, 97, 100]⟩, ⟨#[102, 111, 114]⟩, ⟨#[102, 114, 111, 109]⟩, ⟨#[116, 111]⟩, ⟨#[119, 104, 101, 110]⟩, ⟨#[111, 114]⟩, ⟨#[97, 110, 100]⟩, ⟨#[110, 111, 116]⟩, ⟨#[98, 117, 121, 101, 114]⟩, ⟨#[97, 109, 111, 117, 110, 116]⟩, ⟨#[113, 117, 97, 110, 116, 105, 116, 121]⟩, ⟨#[97, 98, 111, 118, 101]⟩, ⟨#[102, 108, 111, 111, 114]⟩, ⟨#[99, 101, 105, 108]⟩, ⟨#[117, 112]⟩, ⟨#[100, 111, 119, 110]⟩, ⟨#[101, 118, 101, 110]⟩]
def keptS : ByteArray := ⟨#[99, 117, 114, 114, 101, 110, 99, 121, 32, 112, 108, 97, 99, 101, 32, 116, 97, 120, 32, 114, 97, 116, 101, 32, 101, 120, 101, 109, 112, 116, 32, 108, 101, 97, 115, 116, 32, 105, 110, 32, 109, 111, 110, 101, 121, 32, 114, 111, 117, 110, 100, 32, 108, 105, 110, 101, 32, 105, 110, 118, 111, 105, 99, 101, 32, 111, 110, 32, 105, 110, 115, 116, 101, 97, 100, 32, 102, 111, 114, 32, 102, 114, 111, 109, 32, 116, 111, 32, 119, 104, 101, 110, 32, 111, 114, 32, 97, 110, 100, 32, 110, 111, 116, 32, 98, 117, 121, 101, 114, 32, 97, 109, 111, 117, 110, 116, 32, 113, 117, 97, 110, 116, 105, 116, 121, 32, 97, 98, 111, 118, 101, 32, 102, 108, 111, 111, 114, 32, 99, 101, 105, 108, 32, 117, 112, 32, 100, 111, 119, 110, 32, 101, 118, 101, 110]⟩
def wordAt (k : Nat) : ByteArray := keptW.getD k ByteArray.empty
def amongW (q : Nat) (l : List UInt8) : Bool := (List.range q).any fun j => (wordAt j).data.toList == l
def tokens_Word.f (a0 : ByteArray) : Option Bool := if a0.size = 0 then some false else if 24 < a0.size then some false else (tokens_part.f a0).bind fun n => if n = (a0.size : Int) then some (!amongW 29 a0.data.toList) else some false
section
open Go.Maps
theorem lawK : Keyed Tryz.prog 9 := string_keyed Tryz.underlying9
theorem zeroE3 (w : World) : (zeroValue 3).run Tryz.prog w = .ok (.int .i64 0) w := by kernel_rfl
theorem keptS_fields : Lib.fields keptS.data.toList = keptW.map fun b => b.data.toList := by decide +kernel
theorem keptS_ascii : ∀ (j : Nat) b, keptS.data.toList[j]? = some b → b.toNat < 128 := by
 have h : keptS.data.toList.all (fun b => decide (b.toNat < 128)) = true := by decide +kernel
 intro j b hb
 exact of_decide_eq_true (List.all_eq_true.1 h b (List.mem_of_getElem? hb))
theorem fieldsK (w : World) (hG : GT w) : Calls Tryz.prog 71 #[.string keptS] w fun e w' => e = .returned (.slice (some ⟨w.heap.size, 0, none⟩) 29 29) ∧ w' = w.alloc (.cells (keptW.map Value.string).toArray 9) := by
 refine (Tryz.strings_Fields keptS w (by decide +kernel) keptS_ascii hG.tab).mono ?_
 rintro e w' ⟨he, hw⟩
 rw [keptS_fields] at he hw
 refine ⟨by rw [he]; rfl, ?_⟩
 rw [hw, List.map_map]; rfl
def keyW (k : Nat) : Lit := .string (wordAt k).data.toList
def cntW {H : Type} : Nat → DataW H
 | 0 => .map []
 | k + 1 => (cntW k).put (keyW k) (.lit (.int .i64 1))
theorem isMap_cntW {H : Type} : ∀ q, IsMap (cntW (H := H) q)
 | 0 => isMap_empty
 | q + 1 => (isMap_cntW q).put _ _
theorem among_succ (q : Nat) (l : List UInt8) : amongW (q + 1) l = (amongW q l || (wordAt q).data.toList == l) := by simp [amongW, List.range_succ, List.any_append]
theorem cnt_at {H : Type} (l : List UInt8) : ∀ q, (cntW (H := H) q).atKey (.string l) (.lit (.int .i64 0)) = .lit (.int .i64 (if amongW q l = true then 1 else 0))
 | 0 => rfl
 | q + 1 => by
  rw [cntW, among_succ]
  by_cases h : (wordAt q).data.toList = l
  ·rw [show (Lit.string l) = keyW q from by rw [keyW, h], atKey_put_same (k := keyW q) (isMap_cntW q) (show WideAt.IsKeyLit (.string (wordAt q).data.toList) from trivial)]
   simp [h]
  ·rw [atKey_put_other (by intro e; exact h (Lit.string.inj e).symm), cnt_at l q]
   simp [h]
theorem among_new : ∀ q, q < 29 → amongW q (wordAt q).data.toList = false := by
 have h : ((List.range 29).all fun q => !amongW q (wordAt q).data.toList) = true := by decide +kernel
 intro q hq
 have := List.all_eq_true.1 h q (List.mem_range.2 hq)
 simpa using this
theorem wordAt_size : ∀ q, (wordAt q).size ≤ 100 := by
 have h : ((List.range 29).all fun q => decide ((wordAt q).size ≤ 100)) = true := by decide +kernel
 intro q
 by_cases hq : q < 29
 ·exact of_decide_eq_true (List.all_eq_true.1 h q (List.mem_range.2 hq))
 ·rw [wordAt, List.getD_eq_getElem?_getD, List.getElem?_eq_none (by simp [keptW]; omega)]; exact Nat.zero_le _
theorem keptW_cell (j : Nat) (hj : j < 29) : ((keptW.map Value.string).toArray)[j]? = some (.string (wordAt j)) := by
 have : j < keptW.length := hj
 simp [wordAt, List.getD_eq_getElem?_getD, List.getElem?_eq_getElem this]
theorem two_allocs (w : World) (A : Array Value) : ((w.alloc (.map #[] 0)).alloc (.cells A 9)).heap[w.heap.size + 1]? = some (.cells A 9 (0, 0)) := by
 rw [show w.heap.size + 1 = (w.alloc (.map #[] 0)).heap.size from by simp]; exact (MapKept.heap_alloc (w.alloc (.map #[] 0)) _).1
theorem below2 (w : World) (o1 o2 : Obj) : Below w.heap.size w ((w.alloc o1).alloc o2) := ((Below.refl _ _).alloc (Nat.le_refl _) _).alloc (by simp) _
set_option maxRecDepth 100000 in
theorem tokens_Word.calls (a0 : ByteArray) (r : Bool) (w : World) (h : tokens_Word.f a0 = some r) (hG : GT w) :
  Calls Tryz.prog 47 #[.string a0] w fun e w' => e = .returned (.bool r) ∧ Below w.heap.size w w' := by
 have hmm := @run_makeMap Tryz.prog
 have HGT : ∀ w', Below w.heap.size w w' → GT w' := fun w' hb => hG.at hb
 go_enter Tryz.func47, Tryz.ntmps47
 go_wp2_with (first | (go_at_call 71; refine (fieldsK _ (HGT _ ((Below.refl _ _).alloc (Nat.le_refl _) _))).mono ?_; rintro e w' ⟨rfl, hw⟩; rw [hw]; clear hw) | go_in)
 go_loopw [9] (fun i wr => ∃ q : Nat, q ≤ 29 ∧ i = .int .i64 q ∧ wr.ownsMap Tryz.prog 9 (plainElem Tryz.prog 3) w.heap.size q (cntW (H := Unit) q) ∧ (wr.heap[w.heap.size + 1]? = some (.cells (keptW.map Value.string).toArray 9 (0, 0))) ∧ Below w.heap.size w wr)
  (fun i _ => 29 - (intOf i).toNat)
 case atStart =>
  exact ⟨0, Nat.zero_le _, rfl, (World.ownsMap_made _ _ _ _).alloc _, two_allocs _ _, below2 _ _ _⟩
 case round =>
  obtain ⟨q, hq, rfl, hown, hcs, hb⟩ := hrel
  obtain ⟨s, hs⟩ : ∃ s, s = wordAt q := ⟨_, rfl⟩
  have hcx : q < 29 → wr.cell? ⟨w.heap.size + 1, q, none⟩ = some (.string s) := fun hlt => by rw [hs, Joins.cell_of_block hcs]; exact keptW_cell q hlt
  have hkey : keyOf Tryz.prog 9 (.string s) = some (keyW q) := by
   rw [hs]; exact WideMaps.keyOf_string_mk Tryz.underlying9 (by have := wordAt_size q; unfold maxLen; omega)
  clear hs
  obtain ⟨c, hrun, hat, _⟩ := hown.lookup_int lawK Tryz.underlying110 Tryz.underlying3 (zeroE3 _) hkey
  have hc0 : q < 29 → c = 0 := fun hlt => by
   rw [keyW, cnt_at, among_new q hlt] at hat
   injection hat with e; injection e with _ e; exact e.symm
  by_cases hlt : q < 29
  ·obtain rfl := hc0 hlt
   have hcx := hcx hlt
   have hltz : (q : Int) < 29 := by omega
   go_wp2_with (first
    | (at_mapUpdate; refine wpList_mapUpdate_own _ rfl _ _ _ 110 rfl 9 3 lawK Tryz.underlying110 _ w.heap.size q _ rfl hown (by unfold maxLen; omega) _ _ _ rfl rfl hkey _ [] (plainElem_int Tryz.underlying3 (by decide)) ?_)
    | go_in)
   intro w1 hown1 hgrow1
   have R2 := hb.grown hgrow1 hb.size (fun j hj => by cases hj; exact Nat.le_refl _)
   have R3 := (hgrow1.block (w.heap.size + 1) (by rcases Nat.lt_or_ge (w.heap.size + 1) wr.heap.size with hh | hh; exact hh; rw [Array.getElem?_eq_none hh] at hcs; cases hcs) (by simp)).trans hcs
   clear hgrow1 hown hrun hat hcx hcs hb
   go_wp2
   go_roundw
   case rel => exact ⟨q + 1, by omega, by go_num, hown1, R3, R2⟩
   case measure => simp [intOf]; omega
  ·obtain rfl : q = 29 := by omega
   clear hat hrun hkey hc0 hcx hcs hlt hq
   by_cases e0 : a0.size = 0
   ·rw [tokens_Word.f, if_pos e0] at h
    obtain rfl := Option.some.inj h
    have e00 : a0 = ⟨#[]⟩ := by
     cases a0 with
     | mk d => rw [show d = #[] from Array.eq_empty_of_size_eq_zero e0]
    go_wp2
    go_ret
    exact ⟨rfl, hb⟩
   ·have e00 : a0.toList.isEmpty = false := by
     rw [Lib.toList_data, ← Bool.not_eq_true, List.isEmpty_iff]
     intro e
     exact e0 (by have := congrArg List.length e; simpa using this)
    by_cases e1 : 24 < a0.size
    ·rw [tokens_Word.f, if_neg e0, if_pos e1] at h
     obtain rfl := Option.some.inj h
     have e1z : ¬ (a0.size : Int) ≤ 24 := by omega
     go_wp2
     go_ret
     exact ⟨rfl, hb⟩
    ·rw [tokens_Word.f, if_neg e0, if_neg e1] at h
     obtain ⟨n, hp, h⟩ := Option.bind_eq_some_iff.mp h
     have e1z : (a0.size : Int) ≤ 24 := by omega
     by_cases e2 : n = (a0.size : Int)
     ·rw [if_pos e2] at h
      obtain rfl := Option.some.inj h
      have hkeyA : keyOf Tryz.prog 9 (.string a0) = some (.string a0.data.toList) := WideMaps.keyOf_string_mk Tryz.underlying9 (by unfold maxLen; omega)
      have hp1 : tokens_part.f a0 = some (a0.size : Int) := by rw [hp, e2]
      clear hp e2
      by_cases ham : amongW 29 a0.data.toList = true
      ·go_wp2_with (first
        | (go_at_call 72; refine (tokens_part.calls a0 _ _ hp1).mono ?_; rintro e w' ⟨rfl, hb2⟩; have hown2 := hown.kept (row := none) ⟨hb2.os, hb2.tape, hb2.output, hb2.size, fun k hk _ => hb2.block k hk⟩ (by simp); have hb3 := hb.trans (hb2.mono hb.size); obtain ⟨c, hrun, hat, _⟩ := hown2.lookup_int lawK Tryz.underlying110 Tryz.underlying3 (zeroE3 _) hkeyA; rw [cnt_at, if_pos ham] at hat; obtain rfl : 1 = c := by (injection hat with e; injection e))
        | go_in)
       go_ret
       exact ⟨by simp [ham], hb3⟩
      ·go_wp2_with (first
        | (go_at_call 72; refine (tokens_part.calls a0 _ _ hp1).mono ?_; rintro e w' ⟨rfl, hb2⟩; have hown2 := hown.kept (row := none) ⟨hb2.os, hb2.tape, hb2.output, hb2.size, fun k hk _ => hb2.block k hk⟩ (by simp); have hb3 := hb.trans (hb2.mono hb.size); obtain ⟨c, hrun, hat, _⟩ := hown2.lookup_int lawK Tryz.underlying110 Tryz.underlying3 (zeroE3 _) hkeyA; rw [cnt_at, if_neg ham] at hat; obtain rfl : 0 = c := by (injection hat with e; injection e))
        | go_in)
       go_ret
       exact ⟨by simp [ham], hb3⟩
     ·rw [if_neg e2] at h
      obtain rfl := Option.some.inj h
      go_wp2_with (first
       | (go_at_call 72; refine (tokens_part.calls a0 _ _ hp).mono ?_; rintro e w' ⟨rfl, hb2⟩)
       | go_in)
      go_ret
      exact ⟨rfl, hb.trans (hb2.mono hb.size)⟩
end
def traits_words.l0 : Nat → List ByteArray → List ByteArray → Int → Int → Option (Bool)
 | 0, _, _, _, _ => none
 | k + 1, x0, x8, x9, x10 => if x10 < x9 then (if 0 ≤ x10 then (if x10 < (x8.length : Int) then ((tokens_Word.f (rdOf ByteArray.empty x8 x10)).bind fun t108 => (if t108 = true then (if x10 > 0 then (if 0 ≤ (wrap64 (x10 - 1)) then (if (wrap64 (x10 - 1)) < (x0.length : Int) then (if ((Op.bytesLess ((rdOf ByteArray.empty x0 (wrap64 (x10 - 1))).toList) ((rdOf ByteArray.empty x8 x10).toList)) = true) then (traits_words.l0 k x0 x8 x9 (wrap64 (x10 + 1))) else (some false)) else (none)) else (none)) else (traits_words.l0 k x0 x8 x9 (wrap64 (x10 + 1)))) else (some false))) else (none)) else (none)) else (some true)
def traits_words.f (k : Nat) (l0 : List ByteArray) : Option (Bool) := if (l0.length : Int) > 16 then (some false) else (traits_words.l0 k l0 l0 (l0.length : Int) 0)
theorem traits_words.mono_l : ∀ k, (∀ y0 y1 y2 y3, LeO (traits_words.l0 k y0 y1 y2 y3) (traits_words.l0 (k + 1) y0 y1 y2 y3))
 | 0 => fun _ _ _ _ r h => by simp [traits_words.l0] at h
 | k + 1 => by
  have ih0 := traits_words.mono_l k
  ·intro y0 y1 y2 y3
   unfold traits_words.l0
   repeat' first
   | (with_reducible exact ih0 _ _ _ _)
   | (with_reducible exact LeO.refl _)
   | (with_reducible exact LeO.none _)
   | (with_reducible refine LeO.ite ?_ ?_)
   | (with_reducible refine LeO.bind ?_ (fun _ => ?_))
   | exact ih0 _ _ _ _
   | exact LeO.none _
   | refine LeO.ite ?_ ?_
   | refine LeO.bind ?_ (fun _ => ?_)
theorem traits_words.mono : ∀ a0 k, LeO (traits_words.f k a0) (traits_words.f (k + 1) a0) := by
 intro a0 k
 have ih0 := traits_words.mono_l k
 unfold traits_words.f
 repeat' first
   | (with_reducible exact ih0 _ _ _ _)
   | (with_reducible exact LeO.refl _)
   | (with_reducible exact LeO.none _)
   | (with_reducible refine LeO.ite ?_ ?_)
   | (with_reducible refine LeO.bind ?_ (fun _ => ?_))
   | exact ih0 _ _ _ _
   | exact LeO.none _
   | refine LeO.ite ?_ ?_
   | refine LeO.bind ?_ (fun _ => ?_)
set_option maxHeartbeats 8000000 in
set_option maxRecDepth 100000 in
theorem traits_words.calls (k : Nat) (A0 : Option Addr) (c0 : Nat) (l0 : List ByteArray) (r : Bool) (w : World) (hr0 : Kd.C Kd.string w A0 l0.length l0) (hc0 : l0.length ≤ c0) (h : traits_words.f k l0 = some r) (hG : GT w) :
  Calls Tryz.prog 29 #[.slice A0 l0.length c0] w fun e w' => e = .returned (.bool r) ∧ Below w.heap.size w w' := by
 have HR0 := Aside0.mk hr0
 have HC0 := Aside0.mk hc0
 clear hr0 hc0
 have HB := Aside0.mk (Below.refl w.heap.size w)
 have H : (if (l0.length : Int) > 16 then (some false) else (traits_words.l0 k l0 l0 (l0.length : Int) 0)) = some r := h
 clear h
 by_cases c2 : (l0.length : Int) > 16
 ·rw [if_pos c2] at H
  have c2b0 : decide (16 < (l0.length : Int)) = true := decide_eq_true c2
  have c2b1 : decide (16 < l0.length) = true := decide_eq_true (by omega)
  clear c2
  obtain rfl := Option.some.inj H
  go_enter Tryz.func29, Tryz.ntmps29
  go_wp2
  go_ret
  exact ⟨rf_, (hb0_ HB.out)⟩
 ·rw [if_neg c2] at H
  have c2b0 : decide (16 < (l0.length : Int)) = false := decide_eq_false c2
  have c2b1 : decide (16 < l0.length) = false := decide_eq_false (by omega)
  clear c2
  have H' := Aside0.mk H
  clear H
  go_enter Tryz.func29, Tryz.ntmps29
  go_wp2
  go_loopg [10] k (fun kq v10 w' => ∃ (x10_1 : Int), v10 = .int .i64 x10_1 ∧ Aside0 (traits_words.l0 kq l0 l0 (l0.length : Int) x10_1 = some r) ∧ Aside0 (kq ≤ k) ∧ Aside0 (Below w.heap.size w w'))
  case atStart => exact ⟨(0), (by first | rfl | (simp; done) | (simp [*]; done)), H', ⟨Nat.le_refl _⟩, ⟨(hb0_ HB.out)⟩⟩
  case round =>
   clear H'
   try clear c2
   try clear c2b0
   try clear c2b1
   try clear p2
   obtain ⟨x10_1, rfl, HA, HK1, HB⟩ := hrel
   cases gk with
   | zero => exact absurd HA.out (by simp [traits_words.l0])
   | succ k1 =>
    have H := HA.out
    clear HA
    simp only [traits_words.l0] at H
    by_cases c3 : x10_1 < (l0.length : Int)
    ·rw [if_pos c3] at H
     have c3b0 : decide (x10_1 < (l0.length : Int)) = true := decide_eq_true c3
     clear c3
     by_cases c4 : 0 ≤ x10_1
     ·rw [if_pos c4] at H
      have c4b0 : decide (0 ≤ x10_1) = true := decide_eq_true c4
      clear c4
      by_cases c5 : x10_1 < (l0.length : Int)
      ·rw [if_pos c5] at H
       have c5b0 : decide (x10_1 < (l0.length : Int)) = true := decide_eq_true c5
       clear c5
       replace H := Option.bind_eq_some_iff.mp H
       obtain ⟨t108, A60, H⟩ := H
       replace H : (if t108 = true then (if x10_1 > 0 then (if 0 ≤ (wrap64 (x10_1 - 1)) then (if (wrap64 (x10_1 - 1)) < (l0.length : Int) then (if ((Op.bytesLess ((rdOf ByteArray.empty l0 (wrap64 (x10_1 - 1))).toList) ((rdOf ByteArray.empty l0 x10_1).toList)) = true) then (traits_words.l0 k1 l0 l0 (l0.length : Int) (wrap64 (x10_1 + 1))) else (some false)) else (none)) else (none)) else (traits_words.l0 k1 l0 l0 (l0.length : Int) (wrap64 (x10_1 + 1)))) else (some false)) = some r := H
       have A6 := Aside0.mk A60
       clear A60
       by_cases c7 : t108 = true
       ·subst c7
        have H1 : (if x10_1 > 0 then (if 0 ≤ (wrap64 (x10_1 - 1)) then (if (wrap64 (x10_1 - 1)) < (l0.length : Int) then (if ((Op.bytesLess ((rdOf ByteArray.empty l0 (wrap64 (x10_1 - 1))).toList) ((rdOf ByteArray.empty l0 x10_1).toList)) = true) then (traits_words.l0 k1 l0 l0 (l0.length : Int) (wrap64 (x10_1 + 1))) else (some false)) else (none)) else (none)) else (traits_words.l0 k1 l0 l0 (l0.length : Int) (wrap64 (x10_1 + 1)))) = some r := by rw [if_pos rfl] at H; exact H
        clear H
        have H := H1
        clear H1
        by_cases c8 : x10_1 > 0
        ·rw [if_pos c8] at H
         have c8b0 : decide (0 < x10_1) = true := decide_eq_true c8
         clear c8
         obtain ⟨ji9, hji9⟩ : ∃ j_ : Int, (wrap64 (x10_1 - 1)) = j_ := ⟨_, rfl⟩
         replace H : (if 0 ≤ (ji9) then (if (ji9) < (l0.length : Int) then (if ((Op.bytesLess ((rdOf ByteArray.empty l0 (ji9)).toList) ((rdOf ByteArray.empty l0 x10_1).toList)) = true) then (traits_words.l0 k1 l0 l0 (l0.length : Int) (wrap64 (x10_1 + 1))) else (some false)) else (none)) else (none)) = some r := by first | (rw [hji9] at H; exact H) | (simp only [hji9] at H ⊢; exact H)
         (try rw [hji9] at A6)
         have hji9w : (IntKind.i64.wrap (x10_1 - 1)) = ji9 := (i64_w _).trans hji9
         by_cases c10 : 0 ≤ (ji9)
         ·rw [if_pos c10] at H
          have c10b0 : decide (0 ≤ (ji9)) = true := decide_eq_true c10
          clear c10
          by_cases c11 : (ji9) < (l0.length : Int)
          ·rw [if_pos c11] at H
           have c11b0 : decide ((ji9) < (l0.length : Int)) = true := decide_eq_true c11
           clear c11
           by_cases c12 : ((Op.bytesLess ((rdOf ByteArray.empty l0 (ji9)).toList) ((rdOf ByteArray.empty l0 x10_1).toList)) = true)
           ·rw [if_pos c12] at H
            have c12b0 : (Op.bytesLess ((rdOf ByteArray.empty l0 (ji9)).toList) ((rdOf ByteArray.empty l0 x10_1).toList)) = true := c12
            clear c12
            have H' := Aside0.mk H
            clear H
            have p107 : 0 ≤ (x10_1 : Int) := od_
            have q107 : x10_1 < (l0.length : Int) := od_
            obtain ⟨ad107, e107, hx107_0⟩ := Kd.at_string HR0.out x10_1 p107 q107
            cases e107
            replace hx107_0 := (HB.out.cell (World.block_lt_of_cell? w _ hx107_0)).trans hx107_0
            replace p107 := eq_true p107
            replace q107 := eq_true q107
            go_wp2_with (first | ((with_reducible refine gate_callee (f := 47) rfl ?_); refine goesL_ (some 16) rfl rfl Tryz.func47 (by kernel_rfl) rfl #[.string (rdOf ByteArray.empty l0 x10_1)] rfl (by (try simp only [List.map_toArray, List.map_cons, List.map_nil]); first | done | rfl | (simp only [List.length_drop, List.length_take]; rfl)) ?_; (with_reducible refine (tokens_Word.calls (rdOf ByteArray.empty l0 x10_1) true _ A6.out (hG.at (hb0_ HB.out))).mono ?_); rintro e w13 ⟨rfl, hb⟩; refine ⟨_, rfl, ?_⟩; have n0_ := Aside0.mk (below_step (hb0_ HB.out) hb); clear HB; have HB := n0_; clear n0_; (try clear hb); (try clear hb2); (try clear hk); (try clear hi); have p109 : 0 ≤ ((ji9) : Int) := od_; have q109 : (ji9) < (l0.length : Int) := od_; obtain ⟨ad109, e109, hx109_0⟩ := Kd.at_string HR0.out (ji9) p109 q109; obtain rfl : ad107 = ad109 := (by injection e109); replace hx109_0 := (HB.out.cell (World.block_lt_of_cell? w _ hx109_0)).trans hx109_0; replace p109 := eq_true p109; replace q109 := eq_true q109))
            go_roundg k1
            case measure => have := HK1.out; omega
            case rel => exact ⟨(wrap64 (x10_1 + 1)), (by first | rfl | (simp; done) | (simp [*]; done)), H', ⟨by have := HK1.out; omega⟩, ⟨(hb0_ HB.out)⟩⟩
           ·rw [if_neg c12] at H
            have c12b0 : (Op.bytesLess ((rdOf ByteArray.empty l0 (ji9)).toList) ((rdOf ByteArray.empty l0 x10_1).toList)) = false := by simpa using c12
            clear c12
            obtain rfl := Option.some.inj H
            have p107 : 0 ≤ (x10_1 : Int) := od_
            have q107 : x10_1 < (l0.length : Int) := od_
            obtain ⟨ad107, e107, hx107_0⟩ := Kd.at_string HR0.out x10_1 p107 q107
            cases e107
            replace hx107_0 := (HB.out.cell (World.block_lt_of_cell? w _ hx107_0)).trans hx107_0
            replace p107 := eq_true p107
            replace q107 := eq_true q107
            go_wp2_with (first | ((with_reducible refine gate_callee (f := 47) rfl ?_); refine goesL_ (some 16) rfl rfl Tryz.func47 (by kernel_rfl) rfl #[.string (rdOf ByteArray.empty l0 x10_1)] rfl (by (try simp only [List.map_toArray, List.map_cons, List.map_nil]); first | done | rfl | (simp only [List.length_drop, List.length_take]; rfl)) ?_; (with_reducible refine (tokens_Word.calls (rdOf ByteArray.empty l0 x10_1) true _ A6.out (hG.at (hb0_ HB.out))).mono ?_); rintro e w14 ⟨rfl, hb⟩; refine ⟨_, rfl, ?_⟩; have n0_ := Aside0.mk (below_step (hb0_ HB.out) hb); clear HB; have HB := n0_; clear n0_; (try clear hb); (try clear hb2); (try clear hk); (try clear hi); have p109 : 0 ≤ ((ji9) : Int) := od_; have q109 : (ji9) < (l0.length : Int) := od_; obtain ⟨ad109, e109, hx109_0⟩ := Kd.at_string HR0.out (ji9) p109 q109; obtain rfl : ad107 = ad109 := (by injection e109); replace hx109_0 := (HB.out.cell (World.block_lt_of_cell? w _ hx109_0)).trans hx109_0; replace p109 := eq_true p109; replace q109 := eq_true q109))
            go_ret
            exact ⟨by first | rfl | (simp [errW_none, errW_some] <;> rfl) | (simp only [← hji9]; first | rfl | (simp [errW_none, errW_some] <;> rfl)) | (simp [*, errW_none, errW_some] <;> rfl), (hb0_ HB.out)⟩
          ·rw [if_neg c11] at H
           exact absurd H (by simp)
         ·rw [if_neg c10] at H
          exact absurd H (by simp)
        ·rw [if_neg c8] at H
         have c8b0 : decide (0 < x10_1) = false := decide_eq_false c8
         clear c8
         have H' := Aside0.mk H
         clear H
         have p107 : 0 ≤ (x10_1 : Int) := od_
         have q107 : x10_1 < (l0.length : Int) := od_
         obtain ⟨ad107, e107, hx107_0⟩ := Kd.at_string HR0.out x10_1 p107 q107
         cases e107
         replace hx107_0 := (HB.out.cell (World.block_lt_of_cell? w _ hx107_0)).trans hx107_0
         replace p107 := eq_true p107
         replace q107 := eq_true q107
         go_wp2_with (first | ((with_reducible refine gate_callee (f := 47) rfl ?_); refine goesL_ (some 16) rfl rfl Tryz.func47 (by kernel_rfl) rfl #[.string (rdOf ByteArray.empty l0 x10_1)] rfl (by (try simp only [List.map_toArray, List.map_cons, List.map_nil]); first | done | rfl | (simp only [List.length_drop, List.length_take]; rfl)) ?_; (with_reducible refine (tokens_Word.calls (rdOf ByteArray.empty l0 x10_1) true _ A6.out (hG.at (hb0_ HB.out))).mono ?_); rintro e w15 ⟨rfl, hb⟩; refine ⟨_, rfl, ?_⟩; have n0_ := Aside0.mk (below_step (hb0_ HB.out) hb); clear HB; have HB := n0_; clear n0_; (try clear hb); (try clear hb2); (try clear hk); (try clear hi)))
         go_roundg k1
         case measure => have := HK1.out; omega
         case rel => exact ⟨(wrap64 (x10_1 + 1)), (by first | rfl | (simp; done) | (simp [*]; done)), H', ⟨by have := HK1.out; omega⟩, ⟨(hb0_ HB.out)⟩⟩
       ·replace c7 := Bool.eq_false_iff.mpr c7
        subst c7
        have H1 : (some false) = some r := by rw [if_neg (show ¬ (false = true) by decide)] at H; exact H
        clear H
        have H := H1
        clear H1
        obtain rfl := Option.some.inj H
        have p107 : 0 ≤ (x10_1 : Int) := od_
        have q107 : x10_1 < (l0.length : Int) := od_
        obtain ⟨ad107, e107, hx107_0⟩ := Kd.at_string HR0.out x10_1 p107 q107
        cases e107
        replace hx107_0 := (HB.out.cell (World.block_lt_of_cell? w _ hx107_0)).trans hx107_0
        replace p107 := eq_true p107
        replace q107 := eq_true q107
        go_wp2_with (first | ((with_reducible refine gate_callee (f := 47) rfl ?_); refine goesL_ (some 16) rfl rfl Tryz.func47 (by kernel_rfl) rfl #[.string (rdOf ByteArray.empty l0 x10_1)] rfl (by (try simp only [List.map_toArray, List.map_cons, List.map_nil]); first | done | rfl | (simp only [List.length_drop, List.length_take]; rfl)) ?_; (with_reducible refine (tokens_Word.calls (rdOf ByteArray.empty l0 x10_1) false _ A6.out (hG.at (hb0_ HB.out))).mono ?_); rintro e w16 ⟨rfl, hb⟩; refine ⟨_, rfl, ?_⟩; have n0_ := Aside0.mk (below_step (hb0_ HB.out) hb); clear HB; have HB := n0_; clear n0_; (try clear hb); (try clear hb2); (try clear hk); (try clear hi)))
        go_ret
        exact ⟨rf_, (hb0_ HB.out)⟩
      ·rw [if_neg c5] at H
       exact absurd H (by simp)
     ·rw [if_neg c4] at H
      exact absurd H (by simp)
    ·rw [if_neg c3] at H
     have c3b0 : decide (x10_1 < (l0.length : Int)) = false := decide_eq_false c3
     clear c3
     obtain rfl := Option.some.inj H
     go_wp2
     go_ret
     exact ⟨rf_, (hb0_ HB.out)⟩
end Go.Proofs.YtlboolhjfffppaaGreatDoor.PBLI
