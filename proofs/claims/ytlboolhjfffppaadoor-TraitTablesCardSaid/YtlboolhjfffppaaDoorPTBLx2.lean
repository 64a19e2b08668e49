-- Written by this session's program (wip/tools/pr.py over the kit's print).
import Derived.Test.YtlboolhjfffppaaDoorPh
import Derived.Test.YtlboolhjfffppaaDoorPTBLx0
namespace Go.Proofs.YtlboolhjfffppaaDoor.PTBL
open Go.RowKit Go.Proofs.YtlboolhjfffppaaDoorW.PrintWords Go.Proofs.YtlboolhjfffppaaDoorW.PrintLast Go.Proofs.YtlboolhjfffppaaDoorW.PrintMore
attribute [local go_sem] max2_int min2_int max_two min_two max_three min_three max_four min_four
set_option linter.unusedVariables false
set_option linter.unusedSimpArgs false
def inSet (set : ByteArray) (c : UInt8) : Bool := set.data.toList.contains c
def cutN (s set : ByteArray) : Nat := (s.data.toList.takeWhile (inSet set)).length
theorem tw_step {α : Type} (p : α → Bool) : ∀ (l : List α) (i : Nat) (h : i < l.length), i ≤ (l.takeWhile p).length → (p l[i] = true → i + 1 ≤ (l.takeWhile p).length) ∧ (p l[i] = false → (l.takeWhile p).length = i)
 | [], i, h, _ => absurd h (by simp)
 | c :: r, 0, h, _ => by
  simp only [List.getElem_cons_zero, List.takeWhile_cons]
  refine ⟨fun e => by rw [if_pos e]; simp, fun e => by rw [if_neg (by simp [e])]; rfl⟩
 | c :: r, i + 1, h, hi => by
  simp only [List.getElem_cons_succ, List.takeWhile_cons] at hi ⊢
  by_cases hc : p c = true
  ·rw [if_pos hc] at hi ⊢
   simp only [List.length_cons] at hi h ⊢
   have := tw_step p r i (by omega) (by omega)
   exact ⟨fun e => by have := this.1 e; omega, fun e => by have := this.2 e; omega⟩
  ·rw [if_neg hc] at hi; simp at hi
theorem cutN_le (s set : ByteArray) : cutN s set ≤ s.size := (List.takeWhile_sublist _).length_le
def anyIn (set : ByteArray) (q : Nat) (r : Int) : Bool := (set.data.toList.take q).any fun d => r == (d.toNat : Int)
theorem anyIn_succ (set : ByteArray) (q : Nat) (r : Int) (h : q < set.size) : anyIn set (q + 1) r = (anyIn set q r || (r == ((set[q]'h).toNat : Int))) := by
 unfold anyIn
 rw [List.take_succ_eq_append_getElem (by simpa using h), List.any_append]
 simp; rfl
theorem anyIn_byte (s set : ByteArray) (pos : Nat) (h : pos < s.size) (ha : ∀ j, ∀ h : j < set.size, (set[j]'h).toNat < 128) :
  anyIn set set.size ((Utf8.decode s pos).1 : Nat) = inSet set (s[pos]'h) := by
 rw [Bool.eq_iff_iff]
 unfold anyIn inSet
 rw [List.take_of_length_le (by simp), List.any_eq_true, List.contains_iff_mem]
 by_cases hs : (s[pos]'h).toNat < 128
 ·rw [decode_ascii s pos h hs]
  constructor
  ·rintro ⟨d, hd, e⟩
   have e1 : (s[pos]'h).toNat = d.toNat := by have := beq_iff_eq.1 e; omega
   rw [UInt8.toNat_inj.1 e1]; exact hd
  ·intro hm; exact ⟨_, hm, by simp⟩
 ·have hi := (decode_high s pos h (by omega)).1
  have hall : ∀ d ∈ set.data.toList, d.toNat < 128 := by
   intro d hd
   obtain ⟨j, hj, rfl⟩ := List.getElem_of_mem hd
   exact ha j (by simpa using hj)
  constructor
  ·rintro ⟨d, hd, e⟩
   have e1 : (Utf8.decode s pos).1 = d.toNat := by have := beq_iff_eq.1 e; omega
   have := hall d hd; omega
  ·intro hm; exact absurd (hall _ hm) (by omega)
theorem cut_step (s set : ByteArray) (pos : Nat) (h : pos < s.size) (hp : pos ≤ cutN s set) (hi : inSet set (s[pos]'h) = true) : pos + 1 ≤ cutN s set :=
 (tw_step (inSet set) s.data.toList pos (by simpa using h) hp).1 hi
theorem cut_stop (s set : ByteArray) (pos : Nat) (h : pos < s.size) (hp : pos ≤ cutN s set) (hi : inSet set (s[pos]'h) = false) : cutN s set = pos :=
 (tw_step (inSet set) s.data.toList pos (by simpa using h) hp).2 hi
theorem width_in (s set : ByteArray) (pos : Nat) (h : pos < s.size) (ha : ∀ j, ∀ h : j < set.size, (set[j]'h).toNat < 128) (hi : inSet set (s[pos]'h) = true) : (Utf8.decode s pos).2 = 1 := by
 have hm : s[pos]'h ∈ set.data.toList := by unfold inSet at hi; exact List.contains_iff_mem.1 hi
 obtain ⟨j, hj, e⟩ := List.getElem_of_mem hm
 have : (s[pos]'h).toNat < 128 := by rw [← e]; exact ha j (by simpa using hj)
 rw [decode_ascii s pos h this]
theorem iterPos_at {w : World} {k : Nat} {s : ByteArray} {p : Nat} (h : w.heap[k]? = some (.stringIter s p)) : w.iterPos k = p := by simp [World.iterPos, h]
theorem ret_str {a b : ByteArray} (h : a = b) : Ending.returned (.string a) = .returned (.string b) := by rw [h]
def tokens_cutLeft.f (a0 a1 : ByteArray) : Option ByteArray := if a1.data.toList.all (fun c => decide (c.toNat < 128)) = true then some (a0.extract (cutN a0 a1) a0.size) else none
set_option maxRecDepth 100000 in
set_option maxHeartbeats 1000000 in
theorem tokens_cutLeft.calls_ascii (a0 : ByteArray) (a1 : ByteArray) (w : World) (ha : ∀ j, ∀ h : j < a1.size, (a1[j]'h).toNat < 128) :
  Calls Tryd.prog 52 #[.string a0, .string a1] w fun e w' => e = .returned (.string (a0.extract (cutN a0 a1) a0.size)) ∧ Below w.heap.size w w' := by
 go_enter Tryd.func52, Tryd.ntmps52
 go_wp2
 go_loopw [7] (fun _ wr => ∃ pos : Nat, pos ≤ cutN a0 a1 ∧ wr.heap[w.heap.size]? = some (.stringIter a0 pos) ∧ Below w.heap.size w wr) (fun _ wr => a0.size - wr.iterPos w.heap.size)
 case atStart => exact ⟨0, Nat.zero_le _, World.iter_heap w a0 0, (Below.refl _ _).alloc (Nat.le_refl _) _⟩
 case round =>
  obtain ⟨pos, hpos, hit, hb⟩ := hrel
  obtain ⟨wo, rfl⟩ : ∃ wo : World, wo = wr := ⟨_, rfl⟩
  by_cases hp : pos < a0.size
  ·have hnx : ∀ ty, (Instr.next (.pointer (some ⟨w.heap.size, 0, none⟩)) true ty).run Tryd.prog wo = _ := fun ty => Lib.run_next_any_at wo w.heap.size a0 pos ty hit hp
   go_wp2
   have hit1 := Lib.iterAt_heap wo w.heap.size a0 pos (pos + (Utf8.decode a0 pos).2) hit
   have hb1 := Lib.below_iterAt hb (Nat.le_refl _) a0 (pos + (Utf8.decode a0 pos).2)
   have hm0 := Lib.hid (iterPos_at hit)
   obtain ⟨W1, hW1⟩ : ∃ W1, W1 = wo.iterAt w.heap.size a0 (pos + (Utf8.decode a0 pos).2) := ⟨_, rfl⟩
   rw [← hW1] at hit1 hb1 ⊢
   clear hnx hW1 hit hb
   have hlt : w.heap.size < W1.heap.size := (Array.getElem?_eq_some_iff.1 hit1).1
   go_loopw [7] (fun v wi => ∃ q : Nat, q ≤ a1.size ∧ v = .bool (anyIn a1 q ((Utf8.decode a0 pos).1 : Nat)) ∧ wi.heap[W1.heap.size]? = some (.stringIter a1 q) ∧ wi.heap[w.heap.size]? = some (.stringIter a0 (pos + (Utf8.decode a0 pos).2)) ∧ Below w.heap.size w wi) (fun _ wi => a1.size - wi.iterPos W1.heap.size)
   case atStart => exact ⟨0, Nat.zero_le _, rfl, World.iter_heap W1 a1 0, (Lib.alloc_old W1 _ _ hlt).trans hit1, hb1.alloc (by omega) _⟩
   case round =>
    obtain ⟨q, hq, rfl, hi1, hi0, hbi⟩ := hrel
    obtain ⟨wi, rfl⟩ : ∃ wi : World, wi = wr := ⟨_, rfl⟩
    by_cases hqs : q < a1.size
    ·have hnx : ∀ ty, (Instr.next (.pointer (some ⟨W1.heap.size, 0, none⟩)) true ty).run Tryd.prog wi = _ := fun ty => Lib.run_next_ascii_at wi W1.heap.size a1 q ty hi1 hqs (ha q hqs)
     have HS := Lib.hid (anyIn_succ a1 q ((Utf8.decode a0 pos).1 : Nat) hqs)
     have hm1 := Lib.hid (iterPos_at hi1)
     cases hin : anyIn a1 q ((Utf8.decode a0 pos).1 : Nat)
     all_goals
      have Hin := Lib.hid hin
      clear hin
      go_wp2
      go_roundw
      case rel => exact ⟨q + 1, by omega, by rw [HS.out, Hin.out]; first | rfl | simp, Lib.iterAt_heap wi W1.heap.size a1 q (q + 1) hi1, (Lib.iterAt_other wi W1.heap.size w.heap.size a1 (q + 1) (by omega)).trans hi0, Lib.below_iterAt hbi (by omega) a1 (q + 1)⟩
      case measure => rw [iterPos_at (Lib.iterAt_heap wi W1.heap.size a1 q (q + 1) hi1), hm1.out]; omega
    ·have hnx : ∀ ty, (Instr.next (.pointer (some ⟨W1.heap.size, 0, none⟩)) true ty).run Tryd.prog wi = _ := fun ty => Lib.run_next_end_at wi W1.heap.size a1 q ty hi1 hqs
     obtain rfl : q = a1.size := by omega
     have hab := anyIn_byte a0 a1 pos hp ha
     cases hin : anyIn a1 a1.size ((Utf8.decode a0 pos).1 : Nat)
     ·rw [hin] at hab
      have hc := Lib.hid (cut_stop a0 a1 pos hp hpos hab.symm)
      clear hab hin
      go_wp2
      go_ret
      exact ⟨ret_str (by rw [hc.out]), hbi⟩
     ·rw [hin] at hab
      have hc := cut_step a0 a1 pos hp hpos hab.symm
      have hw := width_in a0 a1 pos hp ha hab.symm
      rw [hw] at hi0
      clear hab hin hw
      go_wp2
      go_roundw
      case rel => exact ⟨pos + 1, hc, hi0, hbi⟩
      case measure => rw [iterPos_at hi0, hm0.out]; omega
  ·have hnx : ∀ ty, (Instr.next (.pointer (some ⟨w.heap.size, 0, none⟩)) true ty).run Tryd.prog wo = _ := fun ty => Lib.run_next_end_at wo w.heap.size a0 pos ty hit hp
   go_wp2
   go_ret
   have := cutN_le a0 a1
   exact ⟨ret_str (by rw [show cutN a0 a1 = a0.size by omega]; apply ByteArray.ext; simp), hb⟩
theorem tokens_cutLeft.calls (a0 : ByteArray) (a1 : ByteArray) (r : ByteArray) (w : World) (h : tokens_cutLeft.f a0 a1 = some r) :
  Calls Tryd.prog 52 #[.string a0, .string a1] w fun e w' => e = .returned (.string r) ∧ Below w.heap.size w w' := by
 unfold tokens_cutLeft.f at h
 by_cases hall : a1.data.toList.all (fun c => decide (c.toNat < 128)) = true
 ·rw [if_pos hall] at h
  obtain rfl := Option.some.inj h
  refine tokens_cutLeft.calls_ascii a0 a1 w fun j hj => ?_
  have := List.all_eq_true.1 hall (a1[j]'hj) (List.getElem_mem (l := a1.data.toList) (n := j) (by simpa using hj))
  exact of_decide_eq_true this
 ·rw [if_neg hall] at h; cases h
def tokens_run.f (a0 : ByteArray) (a1 : ByteArray) : Option (Int) := (tokens_cutLeft.f a0 a1).bind fun t104 => (some (wrap64 ((a0.size : Int) - (t104.size : Int))))
set_option maxHeartbeats 8000000 in
set_option maxRecDepth 100000 in
theorem tokens_run.calls (a0 : ByteArray) (a1 : ByteArray) (r : Int) (w : World) (h : tokens_run.f a0 a1 = some r) :
  Calls Tryd.prog 37 #[.string a0, .string a1] w fun e w' => e = .returned (.int .i64 r) ∧ Below w.heap.size w w' := by
 have HB := Aside0.mk (Below.refl w.heap.size w)
 have H : ((tokens_cutLeft.f a0 a1).bind fun t104 => (some (wrap64 ((a0.size : Int) - (t104.size : Int))))) = some r := h
 clear h
 replace H := Option.bind_eq_some_iff.mp H
 obtain ⟨t104, A30, H⟩ := H
 replace H : (some (wrap64 ((a0.size : Int) - (t104.size : Int)))) = some r := H
 have A3 := Aside0.mk A30
 clear A30
 obtain rfl := Option.some.inj H
 go_enter Tryd.func37, Tryd.ntmps37
 go_wp2_with (first | ((with_reducible refine gate_callee (f := 52) rfl ?_); refine goesL_ (some 9) rfl rfl Tryd.func52 (by kernel_rfl) rfl #[.string a0, .string a1] rfl (by (try simp only [List.map_toArray, List.map_cons, List.map_nil]); first | done | rfl | (simp only [List.length_drop, List.length_take]; rfl)) ?_; (with_reducible refine (tokens_cutLeft.calls a0 a1 t104 _ A3.out).mono ?_); rintro e w4 ⟨rfl, hb⟩; refine ⟨_, rfl, ?_⟩; have n0_ := Aside0.mk (below_step (hb0_ HB.out) hb); clear HB; have HB := n0_; clear n0_; (try clear hb); (try clear hb2); (try clear hk); (try clear hi)))
 go_ret
 exact ⟨rf_, (hb0_ HB.out)⟩
def tokens_part.f (a0 : ByteArray) : Option (Int) := (tokens_run.f a0 (⟨#[97, 98, 99, 100, 101, 102, 103, 104, 105, 106, 107, 108, 109, 110, 111, 112, 113, 114, 115, 116, 117, 118, 119, 120, 121, 122]⟩ : ByteArray)).bind fun t105 => (if t105 = 0 then (some 0) else ((tokens_run.f a0 (⟨#[97, 98, 99, 100, 101, 102, 103, 104, 105, 106, 107, 108, 109, 110, 111, 112, 113, 114, 115, 116, 117, 118, 119, 120, 121, 122, 48, 49, 50, 51, 52, 53, 54, 55, 56, 57, 95]⟩ : ByteArray)).bind fun t106 => (some t106)))
set_option maxHeartbeats 8000000 in
set_option maxRecDepth 100000 in
theorem tokens_part.calls (a0 : ByteArray) (r : Int) (w : World) (h : tokens_part.f a0 = some r) :
  Calls Tryd.prog 27 #[.string a0] w fun e w' => e = .returned (.int .i64 r) ∧ Below w.heap.size w w' := by
 have HB := Aside0.mk (Below.refl w.heap.size w)
 have H : ((tokens_run.f a0 (⟨#[97, 98, 99, 100, 101, 102, 103, 104, 105, 106, 107, 108, 109, 110, 111, 112, 113, 114, 115, 116, 117, 118, 119, 120, 121, 122]⟩ : ByteArray)).bind fun t105 => (if t105 = 0 then (some 0) else ((tokens_run.f a0 (⟨#[97, 98, 99, 100, 101, 102, 103, 104, 105, 106, 107, 108, 109, 110, 111, 112, 113, 114, 115, 116, 117, 118, 119, 120, 121, 122, 48, 49, 50, 51, 52, 53, 54, 55, 56, 57, 95]⟩ : ByteArray)).bind fun t106 => (some t106)))) = some r := h
 clear h
 replace H := Option.bind_eq_some_iff.mp H
 obtain ⟨t105, A20, H⟩ := H
 replace H : (if t105 = 0 then (some 0) else ((tokens_run.f a0 (⟨#[97, 98, 99, 100, 101, 102, 103, 104, 105, 106, 107, 108, 109, 110, 111, 112, 113, 114, 115, 116, 117, 118, 119, 120, 121, 122, 48, 49, 50, 51, 52, 53, 54, 55, 56, 57, 95]⟩ : ByteArray)).bind fun t106 => (some t106))) = some r := H
 have A2 := Aside0.mk A20
 clear A20
 by_cases c3 : t105 = 0
 ·rw [if_pos c3] at H
  have c3b0 : (t105 == 0) = true := beq_iff_eq.mpr c3
  have c3b1 : (t105 != 0) = false := bne_eq_false_iff_eq.mpr c3
  clear c3
  obtain rfl := Option.some.inj H
  go_enter Tryd.func27, Tryd.ntmps27
  go_wp2_with (first | ((with_reducible refine gate_callee (f := 37) rfl ?_); refine goesL_ (some 4) rfl rfl Tryd.func37 (by kernel_rfl) rfl #[.string a0, .string (⟨#[97, 98, 99, 100, 101, 102, 103, 104, 105, 106, 107, 108, 109, 110, 111, 112, 113, 114, 115, 116, 117, 118, 119, 120, 121, 122]⟩ : ByteArray)] rfl (by (try simp only [List.map_toArray, List.map_cons, List.map_nil]); first | done | rfl | (simp only [List.length_drop, List.length_take]; rfl)) ?_; (with_reducible refine (tokens_run.calls a0 (⟨#[97, 98, 99, 100, 101, 102, 103, 104, 105, 106, 107, 108, 109, 110, 111, 112, 113, 114, 115, 116, 117, 118, 119, 120, 121, 122]⟩ : ByteArray) t105 _ A2.out).mono ?_); rintro e w4 ⟨rfl, hb⟩; refine ⟨_, rfl, ?_⟩; have n0_ := Aside0.mk (below_step (hb0_ HB.out) hb); clear HB; have HB := n0_; clear n0_; (try clear hb); (try clear hb2); (try clear hk); (try clear hi)))
  go_ret
  exact ⟨rf_, (hb0_ HB.out)⟩
 ·rw [if_neg c3] at H
  have c3b0 : (t105 == 0) = false := beq_eq_false_iff_ne.mpr c3
  have c3b1 : (t105 != 0) = true := bne_iff_ne.mpr c3
  replace H := Option.bind_eq_some_iff.mp H
  obtain ⟨t106, A50, H⟩ := H
  replace H : (some t106) = some r := H
  have A5 := Aside0.mk A50
  clear A50
  obtain rfl := Option.some.inj H
  go_enter Tryd.func27, Tryd.ntmps27
  go_wp2_with (first | ((with_reducible refine gate_callee (f := 37) rfl ?_); refine goesL_ (some 4) rfl rfl Tryd.func37 (by kernel_rfl) rfl #[.string a0, .string (⟨#[97, 98, 99, 100, 101, 102, 103, 104, 105, 106, 107, 108, 109, 110, 111, 112, 113, 114, 115, 116, 117, 118, 119, 120, 121, 122]⟩ : ByteArray)] rfl (by (try simp only [List.map_toArray, List.map_cons, List.map_nil]); first | done | rfl | (simp only [List.length_drop, List.length_take]; rfl)) ?_; (with_reducible refine (tokens_run.calls a0 (⟨#[97, 98, 99, 100, 101, 102, 103, 104, 105, 106, 107, 108, 109, 110, 111, 112, 113, 114, 115, 116, 117, 118, 119, 120, 121, 122]⟩ : ByteArray) t105 _ A2.out).mono ?_); rintro e w6 ⟨rfl, hb⟩; refine ⟨_, rfl, ?_⟩; have n0_ := Aside0.mk (below_step (hb0_ HB.out) hb); clear HB; have HB := n0_; clear n0_; (try clear hb); (try clear hb2); (try clear hk); (try clear hi)) | ((with_reducible refine gate_callee (f := 37) rfl ?_); refine goesL_ (some 7) rfl rfl Tryd.func37 (by kernel_rfl) rfl #[.string a0, .string (⟨#[97, 98, 99, 100, 101, 102, 103, 104, 105, 106, 107, 108, 109, 110, 111, 112, 113, 114, 115, 116, 117, 118, 119, 120, 121, 122, 48, 49, 50, 51, 52, 53, 54, 55, 56, 57, 95]⟩ : ByteArray)] rfl (by (try simp only [List.map_toArray, List.map_cons, List.map_nil]); first | done | rfl | (simp only [List.length_drop, List.length_take]; rfl)) ?_; (with_reducible refine (tokens_run.calls a0 (⟨#[97, 98, 99, 100, 101, 102, 103, 104, 105, 106, 107, 108, 109, 110, 111, 112, 113, 114, 115, 116, 117, 118, 119, 120, 121, 122, 48, 49, 50, 51, 52, 53, 54, 55, 56, 57, 95]⟩ : ByteArray) t106 _ A5.out).mono ?_); rintro e w7 ⟨rfl, hb⟩; refine ⟨_, rfl, ?_⟩; have n0_ := Aside0.mk (below_step (hb0_ HB.out) hb); clear HB; have HB := n0_; clear n0_; (try clear hb); (try clear hb2); (try clear hk); (try clear hi)))
  go_ret
  exact ⟨rf_, (hb0_ HB.out)⟩
def keptW : List ByteArray := [⟨#[99, 117, 114, 114, 101, 110, 99, 121]⟩, ⟨#[112, 108, 97, 99, 101]⟩, ⟨#[116, 97, 120]⟩, ⟨#[114, 97, 116, 101]⟩, ⟨#[101, 120, 101, 109, 112, 116]⟩, ⟨#[108, 101, 97, 115, 116]⟩, ⟨#[105, 110]⟩, ⟨#[109, 111, 110, 101, 121]⟩, ⟨#[114, 111, 117, 110, 100]⟩, ⟨#[108, 105, 110, 101]⟩, ⟨#[105, 110, 118, 111, 105, 99, 101]⟩, ⟨#[111, 110]⟩, ⟨#[105, 110, 115, 116, 101, 97, 100]⟩, ⟨#[102, 111, 114]⟩, ⟨#[102, 114, 111, 109]⟩, ⟨#[116, 111]⟩, ⟨#[119, 104, 101, 110]⟩, ⟨#[111, 114]⟩, ⟨#[97, 110, 100]⟩, ⟨#[110, 111, 116]⟩, ⟨#[98, 117, 121, 101, 114]⟩, ⟨#[97, 109, 111, 117, 110, 116]⟩, ⟨#[113, 117, 97, 110, 116, 105, 116, 121]⟩, ⟨#[97, 98, 111, 118, 101]⟩, ⟨#[102, 108, 111, 111, 114]⟩, ⟨#[99, 101, 105, 108]⟩, ⟨#[117, 112]⟩, ⟨#[100, 111, 119, 110]⟩, ⟨#[101, 118, 101, 110]⟩]
def keptS : ByteArray := ⟨#[99, 117, 114, 114, 101, 110, 99, 121, 32, 112, 108, 97, 99, 101, 32, 116, 97, 120, 32, 114, 97, 116, 101, 32, 101, 120, 101, 109, 112, 116, 32, 108, 101, 97, 115, 116, 32, 105, 110, 32, 109, 111, 110, 101, 121, 32, 114, 111, 117, 110, 100, 32, 108, 105, 110, 101, 32, 105, 110, 118, 111, 105, 99, 101, 32, 111, 110, 32, 105, 110, 115, 116, 101, 97, 100, 32, 102, 111, 114, 32, 102, 114, 111, 109, 32, 116, 111, 32, 119, 104, 101, 110, 32, 111, 114, 32, 97, 110, 100, 32, 110, 111, 116, 32, 98, 117, 121, 101, 114, 32, 97, 109, 111, 117, 110, 116, 32, 113, 117, 97, 110, 116, 105, 116, 121, 32, 97, 98, 111, 118, 101, 32, 102, 108, 111, 111, 114, 32, 99, 101, 105, 108, 32, 117, 112, 32, 100, 111, 119, 110, 32, 101, 118, 101, 110]⟩
def wordAt (k : Nat) : ByteArray := keptW.getD k ByteArray.empty
def amongW (q : Nat) (l : List UInt8) : Bool := (List.range q).any fun j => (wordAt j).data.toList == l
def tokens_Word.f (a0 : ByteArray) : Option Bool := if a0.size = 0 then some false else if 24 < a0.size then some false else (tokens_part.f a0).bind fun n => if n = (a0.size : Int) then some (!amongW 29 a0.data.toList) else some false
section
open Go.Maps
theorem lawK : Keyed Tryd.prog 9 := string_keyed Tryd.underlying9
theorem zeroE3 (w : World) : (zeroValue 3).run Tryd.prog w = .ok (.int .i64 0) w := by kernel_rfl
theorem keptS_fields : Lib.fields keptS.data.toList = keptW.map fun b => b.data.toList := by decide +kernel
theorem keptS_ascii : ∀ (j : Nat) b, keptS.data.toList[j]? = some b → b.toNat < 128 := by
 have h : keptS.data.toList.all (fun b => decide (b.toNat < 128)) = true := by decide +kernel
 intro j b hb
 exact of_decide_eq_true (List.all_eq_true.1 h b (List.mem_of_getElem? hb))
theorem fieldsK (w : World) (hG : GT w) : Calls Tryd.prog 26 #[.string keptS] w fun e w' => e = .returned (.slice (some ⟨w.heap.size, 0, none⟩) 29 29) ∧ w' = w.alloc (.cells (keptW.map Value.string).toArray 9) := by
 refine (Tryd.strings_Fields keptS w (by decide +kernel) keptS_ascii hG.tab).mono ?_
 rintro e w' ⟨he, hw⟩
 rw [keptS_fields] at he hw
 refine ⟨by rw [he]; rfl, ?_⟩
 rw [hw, List.map_map]; rfl
def keyW (k : Nat) : Lit := .string (wordAt k).data.toList
def cntW {H : Type} : Nat → DataW H
 | 0 => .map []
 | k + 1 => (cntW k).put (keyW k) (.lit (.int .i64 1))
theorem isMap_cntW {H : Type} : ∀ q, IsMap (cntW (H := H) q)
 | 0 => isMap_empty
 | q + 1 => (isMap_cntW q).put _ _
theorem among_succ (q : Nat) (l : List UInt8) : amongW (q + 1) l = (amongW q l || (wordAt q).data.toList == l) := by simp [amongW, List.range_succ, List.any_append]
theorem cnt_at {H : Type} (l : List UInt8) : ∀ q, (cntW (H := H) q).atKey (.string l) (.lit (.int .i64 0)) = .lit (.int .i64 (if amongW q l = true then 1 else 0))
 | 0 => rfl
 | q + 1 => by
  rw [cntW, among_succ]
  by_cases h : (wordAt q).data.toList = l
  ·rw [show (Lit.string l) = keyW q from by rw [keyW, h], atKey_put_same (k := keyW q) (isMap_cntW q) (show WideAt.IsKeyLit (.string (wordAt q).data.toList) from trivial)]
   simp [h]
  ·rw [atKey_put_other (by intro e; exact h (Lit.string.inj e).symm), cnt_at l q]
   simp [h]
theorem among_new : ∀ q, q < 29 → amongW q (wordAt q).data.toList = false := by
 have h : ((List.range 29).all fun q => !amongW q (wordAt q).data.toList) = true := by decide +kernel
 intro q hq
 have := List.all_eq_true.1 h q (List.mem_range.2 hq)
 simpa using this
theorem wordAt_size : ∀ q, (wordAt q).size ≤ 100 := by
 have h : ((List.range 29).all fun q => decide ((wordAt q).size ≤ 100)) = true := by decide +kernel
 intro q
 by_cases hq : q < 29
 ·exact of_decide_eq_true (List.all_eq_true.1 h q (List.mem_range.2 hq))
 ·rw [wordAt, List.getD_eq_getElem?_getD, List.getElem?_eq_none (by simp [keptW]; omega)]; exact Nat.zero_le _
theorem keptW_cell (j : Nat) (hj : j < 29) : ((keptW.map Value.string).toArray)[j]? = some (.string (wordAt j)) := by
 have : j < keptW.length := hj
 simp [wordAt, List.getD_eq_getElem?_getD, List.getElem?_eq_getElem this]
theorem two_allocs (w : World) (A : Array Value) : ((w.alloc (.map #[] 0)).alloc (.cells A 9)).heap[w.heap.size + 1]? = some (.cells A 9 (0, 0)) := by
 rw [show w.heap.size + 1 = (w.alloc (.map #[] 0)).heap.size from by simp]; exact (MapKept.heap_alloc (w.alloc (.map #[] 0)) _).1
theorem below2 (w : World) (o1 o2 : Obj) : Below w.heap.size w ((w.alloc o1).alloc o2) := ((Below.refl _ _).alloc (Nat.le_refl _) _).alloc (by simp) _
set_option maxRecDepth 100000 in
theorem tokens_Word.calls (a0 : ByteArray) (r : Bool) (w : World) (h : tokens_Word.f a0 = some r) (hG : GT w) :
  Calls Tryd.prog 19 #[.string a0] w fun e w' => e = .returned (.bool r) ∧ Below w.heap.size w w' := by
 have hmm := @run_makeMap Tryd.prog
 have HGT : ∀ w', Below w.heap.size w w' → GT w' := fun w' hb => hG.at hb
 go_enter Tryd.func19, Tryd.ntmps19
 go_wp2_with (first | (go_at_call 26; refine (fieldsK _ (HGT _ ((Below.refl _ _).alloc (Nat.le_refl _) _))).mono ?_; rintro e w' ⟨rfl, hw⟩; rw [hw]; clear hw) | go_in)
 go_loopw [9] (fun i wr => ∃ q : Nat, q ≤ 29 ∧ i = .int .i64 q ∧ wr.ownsMap Tryd.prog 9 (plainElem Tryd.prog 3) w.heap.size q (cntW (H := Unit) q) ∧ (wr.heap[w.heap.size + 1]? = some (.cells (keptW.map Value.string).toArray 9 (0, 0))) ∧ Below w.heap.size w wr)
  (fun i _ => 29 - (intOf i).toNat)
 case atStart =>
  exact ⟨0, Nat.zero_le _, rfl, (World.ownsMap_made _ _ _ _).alloc _, two_allocs _ _, below2 _ _ _⟩
 case round =>
  obtain ⟨q, hq, rfl, hown, hcs, hb⟩ := hrel
  obtain ⟨s, hs⟩ : ∃ s, s = wordAt q := ⟨_, rfl⟩
  have hcx : q < 29 → wr.cell? ⟨w.heap.size + 1, q, none⟩ = some (.string s) := fun hlt => by rw [hs, Joins.cell_of_block hcs]; exact keptW_cell q hlt
  have hkey : keyOf Tryd.prog 9 (.string s) = some (keyW q) := by
   rw [hs]; exact WideMaps.keyOf_string_mk Tryd.underlying9 (by have := wordAt_size q; unfold maxLen; omega)
  clear hs
  obtain ⟨c, hrun, hat, _⟩ := hown.lookup_int lawK Tryd.underlying66 Tryd.underlying3 (zeroE3 _) hkey
  have hc0 : q < 29 → c = 0 := fun hlt => by
   rw [keyW, cnt_at, among_new q hlt] at hat
   injection hat with e; injection e with _ e; exact e.symm
  by_cases hlt : q < 29
  ·obtain rfl := hc0 hlt
   have hcx := hcx hlt
   have hltz : (q : Int) < 29 := by omega
   go_wp2_with (first
    | (at_mapUpdate; refine wpList_mapUpdate_own _ rfl _ _ _ 66 rfl 9 3 lawK Tryd.underlying66 _ w.heap.size q _ rfl hown (by unfold maxLen; omega) _ _ _ rfl rfl hkey _ [] (plainElem_int Tryd.underlying3 (by decide)) ?_)
    | go_in)
   intro w1 hown1 hgrow1
   have R2 := hb.grown hgrow1 hb.size (fun j hj => by cases hj; exact Nat.le_refl _)
   have R3 := (hgrow1.block (w.heap.size + 1) (by rcases Nat.lt_or_ge (w.heap.size + 1) wr.heap.size with hh | hh; exact hh; rw [Array.getElem?_eq_none hh] at hcs; cases hcs) (by simp)).trans hcs
   clear hgrow1 hown hrun hat hcx hcs hb
   go_wp2
   go_roundw
   case rel => exact ⟨q + 1, by omega, by go_num, hown1, R3, R2⟩
   case measure => simp [intOf]; omega
  ·obtain rfl : q = 29 := by omega
   clear hat hrun hkey hc0 hcx hcs hlt hq
   by_cases e0 : a0.size = 0
   ·rw [tokens_Word.f, if_pos e0] at h
    obtain rfl := Option.some.inj h
    have e00 : a0 = ⟨#[]⟩ := by
     cases a0 with
     | mk d => rw [show d = #[] from Array.eq_empty_of_size_eq_zero e0]
    go_wp2
    go_ret
    exact ⟨rfl, hb⟩
   ·have e00 : a0.toList.isEmpty = false := by
     rw [Lib.toList_data, ← Bool.not_eq_true, List.isEmpty_iff]
     intro e
     exact e0 (by have := congrArg List.length e; simpa using this)
    by_cases e1 : 24 < a0.size
    ·rw [tokens_Word.f, if_neg e0, if_pos e1] at h
     obtain rfl := Option.some.inj h
     have e1z : ¬ (a0.size : Int) ≤ 24 := by omega
     go_wp2
     go_ret
     exact ⟨rfl, hb⟩
    ·rw [tokens_Word.f, if_neg e0, if_neg e1] at h
     obtain ⟨n, hp, h⟩ := Option.bind_eq_some_iff.mp h
     have e1z : (a0.size : Int) ≤ 24 := by omega
     by_cases e2 : n = (a0.size : Int)
     ·rw [if_pos e2] at h
      obtain rfl := Option.some.inj h
      have hkeyA : keyOf Tryd.prog 9 (.string a0) = some (.string a0.data.toList) := WideMaps.keyOf_string_mk Tryd.underlying9 (by unfold maxLen; omega)
      have hp1 : tokens_part.f a0 = some (a0.size : Int) := by rw [hp, e2]
      clear hp e2
      by_cases ham : amongW 29 a0.data.toList = true
      ·go_wp2_with (first
        | (go_at_call 27; refine (tokens_part.calls a0 _ _ hp1).mono ?_; rintro e w' ⟨rfl, hb2⟩; have hown2 := hown.kept (row := none) ⟨hb2.os, hb2.tape, hb2.output, hb2.size, fun k hk _ => hb2.block k hk⟩ (by simp); have hb3 := hb.trans (hb2.mono hb.size); obtain ⟨c, hrun, hat, _⟩ := hown2.lookup_int lawK Tryd.underlying66 Tryd.underlying3 (zeroE3 _) hkeyA; rw [cnt_at, if_pos ham] at hat; obtain rfl : 1 = c := by (injection hat with e; injection e))
        | go_in)
       go_ret
       exact ⟨by simp [ham], hb3⟩
      ·go_wp2_with (first
        | (go_at_call 27; refine (tokens_part.calls a0 _ _ hp1).mono ?_; rintro e w' ⟨rfl, hb2⟩; have hown2 := hown.kept (row := none) ⟨hb2.os, hb2.tape, hb2.output, hb2.size, fun k hk _ => hb2.block k hk⟩ (by simp); have hb3 := hb.trans (hb2.mono hb.size); obtain ⟨c, hrun, hat, _⟩ := hown2.lookup_int lawK Tryd.underlying66 Tryd.underlying3 (zeroE3 _) hkeyA; rw [cnt_at, if_neg ham] at hat; obtain rfl : 0 = c := by (injection hat with e; injection e))
        | go_in)
       go_ret
       exact ⟨by simp [ham], hb3⟩
     ·rw [if_neg e2] at h
      obtain rfl := Option.some.inj h
      go_wp2_with (first
       | (go_at_call 27; refine (tokens_part.calls a0 _ _ hp).mono ?_; rintro e w' ⟨rfl, hb2⟩)
       | go_in)
      go_ret
      exact ⟨rfl, hb.trans (hb2.mono hb.size)⟩
end
def decimal_Check.f (a0_0 : Int) (a0_1 : Int) : Option (Int) := if a0_1 < 0 then (some 60) else (if a0_1 > 9 then (some 60) else (if a0_1 > 0 then (if (Int.tmod a0_0 10) = 0 then (some 60) else (some 0)) else (some 0)))
set_option maxHeartbeats 8000000 in
set_option maxRecDepth 100000 in
theorem decimal_Check.calls (a0_0 : Int) (a0_1 : Int) (r : Int) (w : World) (h : decimal_Check.f a0_0 a0_1 = some r) :
  Calls Tryd.prog 20 #[.agg #[.int .i64 a0_0, .int .i64 a0_1]] w fun e w' => e = .returned (.int .i64 r) ∧ Below w.heap.size w w' := by
 have hu33 := Tryd.underlying33
 have HB := Aside0.mk (Below.refl w.heap.size w)
 have H : (if a0_1 < 0 then (some 60) else (if a0_1 > 9 then (some 60) else (if a0_1 > 0 then (if (Int.tmod a0_0 10) = 0 then (some 60) else (some 0)) else (some 0)))) = some r := h
 clear h
 by_cases c2 : a0_1 < 0
 ·rw [if_pos c2] at H
  have c2b0 : decide (a0_1 < 0) = true := decide_eq_true c2
  clear c2
  obtain rfl := Option.some.inj H
  go_enter Tryd.func20, Tryd.ntmps20
  go_wp2_with (first | ((with_reducible refine gate_dst (N := 1) rfl ?_); refine box_event ?hg (N := 1) ?hd (cs := #[.int .i64 a0_0, .int .i64 a0_1]) (t := 33) ?hr ?_; (case hd => rfl); (case hg => rfl); (case hr => first | (go_simp; done) | (go_simp; rfl)); intro gb107 hg w3 hbox hb; have n0_ := Aside0.mk (below_step (hb0_ HB.out) hb); have n1_ := Aside0.mk (hbox); have n2_ := Aside0.mk ((by rw [hg]; exact (below_size (hb0_ HB.out)) : w.heap.size ≤ gb107)); have n3_ := Aside0.mk ((by rw [hg]; exact (below_size (hb0_ HB.out)) : w.heap.size ≤ gb107)); clear HB; have HB := n0_; have BK107 := n1_; have GW107 := n2_; have GE107 := n3_; clear n0_ n1_ n2_ n3_; clear hb hbox hg; obtain ⟨hcz4_0, hcz4_1, hfz4_0, hfz4_1⟩ := bx2 BK107.out))
  go_ret
  exact ⟨rf_, (hb1_ HB.out GE107.out)⟩
 ·rw [if_neg c2] at H
  have c2b0 : decide (a0_1 < 0) = false := decide_eq_false c2
  clear c2
  by_cases c5 : a0_1 > 9
  ·rw [if_pos c5] at H
   have c5b0 : decide (9 < a0_1) = true := decide_eq_true c5
   clear c5
   obtain rfl := Option.some.inj H
   go_enter Tryd.func20, Tryd.ntmps20
   go_wp2_with (first | ((with_reducible refine gate_dst (N := 1) rfl ?_); refine box_event ?hg (N := 1) ?hd (cs := #[.int .i64 a0_0, .int .i64 a0_1]) (t := 33) ?hr ?_; (case hd => rfl); (case hg => rfl); (case hr => first | (go_simp; done) | (go_simp; rfl)); intro gb107 hg w6 hbox hb; have n0_ := Aside0.mk (below_step (hb0_ HB.out) hb); have n1_ := Aside0.mk (hbox); have n2_ := Aside0.mk ((by rw [hg]; exact (below_size (hb0_ HB.out)) : w.heap.size ≤ gb107)); have n3_ := Aside0.mk ((by rw [hg]; exact (below_size (hb0_ HB.out)) : w.heap.size ≤ gb107)); clear HB; have HB := n0_; have BK107 := n1_; have GW107 := n2_; have GE107 := n3_; clear n0_ n1_ n2_ n3_; clear hb hbox hg; obtain ⟨hcz7_0, hcz7_1, hfz7_0, hfz7_1⟩ := bx2 BK107.out))
   go_ret
   exact ⟨rf_, (hb1_ HB.out GE107.out)⟩
  ·rw [if_neg c5] at H
   have c5b0 : decide (9 < a0_1) = false := decide_eq_false c5
   clear c5
   by_cases c8 : a0_1 > 0
   ·rw [if_pos c8] at H
    have c8b0 : decide (0 < a0_1) = true := decide_eq_true c8
    clear c8
    by_cases c9 : (Int.tmod a0_0 10) = 0
    ·rw [if_pos c9] at H
     have c9b0 : ((Int.tmod a0_0 10) == 0) = true := beq_iff_eq.mpr c9
     have c9b1 : ((Int.tmod a0_0 10) != 0) = false := bne_eq_false_iff_eq.mpr c9
     clear c9
     obtain rfl := Option.some.inj H
     go_enter Tryd.func20, Tryd.ntmps20
     go_wp2_with (first | ((with_reducible refine gate_dst (N := 1) rfl ?_); refine box_event ?hg (N := 1) ?hd (cs := #[.int .i64 a0_0, .int .i64 a0_1]) (t := 33) ?hr ?_; (case hd => rfl); (case hg => rfl); (case hr => first | (go_simp; done) | (go_simp; rfl)); intro gb107 hg w10 hbox hb; have n0_ := Aside0.mk (below_step (hb0_ HB.out) hb); have n1_ := Aside0.mk (hbox); have n2_ := Aside0.mk ((by rw [hg]; exact (below_size (hb0_ HB.out)) : w.heap.size ≤ gb107)); have n3_ := Aside0.mk ((by rw [hg]; exact (below_size (hb0_ HB.out)) : w.heap.size ≤ gb107)); clear HB; have HB := n0_; have BK107 := n1_; have GW107 := n2_; have GE107 := n3_; clear n0_ n1_ n2_ n3_; clear hb hbox hg; obtain ⟨hcz11_0, hcz11_1, hfz11_0, hfz11_1⟩ := bx2 BK107.out))
     go_ret
     exact ⟨rf_, (hb1_ HB.out GE107.out)⟩
    ·rw [if_neg c9] at H
     have c9b0 : ((Int.tmod a0_0 10) == 0) = false := beq_eq_false_iff_ne.mpr c9
     have c9b1 : ((Int.tmod a0_0 10) != 0) = true := bne_iff_ne.mpr c9
     obtain rfl := Option.some.inj H
     go_enter Tryd.func20, Tryd.ntmps20
     go_wp2_with (first | ((with_reducible refine gate_dst (N := 1) rfl ?_); refine box_event ?hg (N := 1) ?hd (cs := #[.int .i64 a0_0, .int .i64 a0_1]) (t := 33) ?hr ?_; (case hd => rfl); (case hg => rfl); (case hr => first | (go_simp; done) | (go_simp; rfl)); intro gb107 hg w12 hbox hb; have n0_ := Aside0.mk (below_step (hb0_ HB.out) hb); have n1_ := Aside0.mk (hbox); have n2_ := Aside0.mk ((by rw [hg]; exact (below_size (hb0_ HB.out)) : w.heap.size ≤ gb107)); have n3_ := Aside0.mk ((by rw [hg]; exact (below_size (hb0_ HB.out)) : w.heap.size ≤ gb107)); clear HB; have HB := n0_; have BK107 := n1_; have GW107 := n2_; have GE107 := n3_; clear n0_ n1_ n2_ n3_; clear hb hbox hg; obtain ⟨hcz13_0, hcz13_1, hfz13_0, hfz13_1⟩ := bx2 BK107.out))
     go_ret
     exact ⟨rf_, (hb1_ HB.out GE107.out)⟩
   ·rw [if_neg c8] at H
    have c8b0 : decide (0 < a0_1) = false := decide_eq_false c8
    clear c8
    obtain rfl := Option.some.inj H
    go_enter Tryd.func20, Tryd.ntmps20
    go_wp2_with (first | ((with_reducible refine gate_dst (N := 1) rfl ?_); refine box_event ?hg (N := 1) ?hd (cs := #[.int .i64 a0_0, .int .i64 a0_1]) (t := 33) ?hr ?_; (case hd => rfl); (case hg => rfl); (case hr => first | (go_simp; done) | (go_simp; rfl)); intro gb107 hg w14 hbox hb; have n0_ := Aside0.mk (below_step (hb0_ HB.out) hb); have n1_ := Aside0.mk (hbox); have n2_ := Aside0.mk ((by rw [hg]; exact (below_size (hb0_ HB.out)) : w.heap.size ≤ gb107)); have n3_ := Aside0.mk ((by rw [hg]; exact (below_size (hb0_ HB.out)) : w.heap.size ≤ gb107)); clear HB; have HB := n0_; have BK107 := n1_; have GW107 := n2_; have GE107 := n3_; clear n0_ n1_ n2_ n3_; clear hb hbox hg; obtain ⟨hcz15_0, hcz15_1, hfz15_0, hfz15_1⟩ := bx2 BK107.out))
    go_ret
    exact ⟨rf_, (hb1_ HB.out GE107.out)⟩
end Go.Proofs.YtlboolhjfffppaaDoor.PTBL
