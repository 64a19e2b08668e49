-- Written by this session's program (wip/tools/pr.py over the kit's print).
import Derived.Test.YtlboolhjfffppaaGreatDoorPh
import Derived.Test.YtlboolhjfffppaaGreatDoorPBLIx0
import Derived.Test.YtlboolhjfffppaaGreatDoorPBLIx2
import Derived.Test.YtlboolhjfffppaaGreatDoorPBLIx13
namespace Go.Proofs.YtlboolhjfffppaaGreatDoor.PBLI
open Go.RowKit Go.Proofs.YtlboolhjfffppaaGreatDoorW.PrintWords Go.Proofs.YtlboolhjfffppaaGreatDoorW.PrintLast Go.Proofs.YtlboolhjfffppaaGreatDoorW.PrintMore
attribute [local go_sem] max2_int min2_int max_two min_two max_three min_three max_four min_four
set_option linter.unusedVariables false
set_option linter.unusedSimpArgs false
def traits_Class.l0 : Nat → List ByteArray → List ByteArray → Int → Int → Option (List ByteArray × Int)
 | 0, _, _, _, _ => none
 | k + 1, x4, x12, x13, x14 => if x14 < x13 then (if 0 ≤ x14 then (if x14 < (x12.length : Int) then ((tokens_Word.f (rdOf ByteArray.empty x12 x14)).bind fun t226 => (if t226 = true then (traits_Class.l0 k x4 x12 x13 (wrap64 (x14 + 1))) else (some (([] : List ByteArray), 140)))) else (none)) else (none)) else (some (x4, 0))
def traits_Class.f (k : Nat) (a0 : ByteArray) : Option (List ByteArray × Int) := (strings_Split.f a0 (⟨#[46]⟩ : ByteArray)).bind fun t222 => (if (t222.length : Int) > 8 then (some (([] : List ByteArray), 140)) else (traits_Class.l0 k t222 t222 (t222.length : Int) 0))
theorem traits_Class.mono_l : ∀ k, (∀ y0 y1 y2 y3, LeO (traits_Class.l0 k y0 y1 y2 y3) (traits_Class.l0 (k + 1) y0 y1 y2 y3))
 | 0 => fun _ _ _ _ r h => by simp [traits_Class.l0] at h
 | k + 1 => by
  have ih0 := traits_Class.mono_l k
  ·intro y0 y1 y2 y3
   unfold traits_Class.l0
   repeat' first
   | (with_reducible exact ih0 _ _ _ _)
   | (with_reducible exact LeO.refl _)
   | (with_reducible exact LeO.none _)
   | (with_reducible refine LeO.ite ?_ ?_)
   | (with_reducible refine LeO.bind ?_ (fun _ => ?_))
   | exact ih0 _ _ _ _
   | exact LeO.none _
   | refine LeO.ite ?_ ?_
   | refine LeO.bind ?_ (fun _ => ?_)
theorem traits_Class.mono : ∀ a0 k, LeO (traits_Class.f k a0) (traits_Class.f (k + 1) a0) := by
 intro a0 k
 have ih0 := traits_Class.mono_l k
 unfold traits_Class.f
 repeat' first
   | (with_reducible exact ih0 _ _ _ _)
   | (with_reducible exact LeO.refl _)
   | (with_reducible exact LeO.none _)
   | (with_reducible refine LeO.ite ?_ ?_)
   | (with_reducible refine LeO.bind ?_ (fun _ => ?_))
   | exact ih0 _ _ _ _
   | exact LeO.none _
   | refine LeO.ite ?_ ?_
   | refine LeO.bind ?_ (fun _ => ?_)
set_option maxHeartbeats 8000000 in
set_option maxRecDepth 100000 in
theorem traits_Class.calls (k : Nat) (a0 : ByteArray) (r1 : List ByteArray) (r2 : Int) (w : World) (h : traits_Class.f k a0 = some (r1, r2)) (hG : GT w) :
  Calls Tryz.prog 43 #[.string a0] w fun e w' => ∃ v0_ : Value, e = .returned (.tuple #[v0_, .int .i64 r2]) ∧ Kd.R Kd.string 9 w' w.heap.size (fun _ => True) v0_ r1 ∧ Below w.heap.size w w' := by
 have HB := Aside0.mk (Below.refl w.heap.size w)
 have H : ((strings_Split.f a0 (⟨#[46]⟩ : ByteArray)).bind fun t222 => (if (t222.length : Int) > 8 then (some (([] : List ByteArray), 140)) else (traits_Class.l0 k t222 t222 (t222.length : Int) 0))) = some (r1, r2) := h
 clear h
 replace H := Option.bind_eq_some_iff.mp H
 obtain ⟨t222, A20, H⟩ := H
 replace H : (if (t222.length : Int) > 8 then (some (([] : List ByteArray), 140)) else (traits_Class.l0 k t222 t222 (t222.length : Int) 0)) = some (r1, r2) := H
 have A2 := Aside0.mk A20
 clear A20
 by_cases c3 : (t222.length : Int) > 8
 ·rw [if_pos c3] at H
  have c3b0 : decide (8 < (t222.length : Int)) = true := decide_eq_true c3
  have c3b1 : decide (8 < t222.length) = true := decide_eq_true (by omega)
  clear c3
  simp only [Option.some.injEq, Prod.mk.injEq] at H
  obtain ⟨rfl, rfl⟩ := H
  go_enter Tryz.func43, Tryz.ntmps43
  go_wp2_with (first | ((with_reducible refine gate_callee (f := 59) rfl ?_); refine goesL_ (some 8) rfl rfl Tryz.func59 (by kernel_rfl) rfl #[.string a0, .string (⟨#[46]⟩ : ByteArray)] rfl (by (try simp only [List.map_toArray, List.map_cons, List.map_nil]); first | done | rfl | (simp only [List.length_drop, List.length_take]; rfl)) ?_; (with_reducible refine (strings_Split.calls a0 (⟨#[46]⟩ : ByteArray) t222 _ A2.out (hG.at (hb0_ HB.out))).mono ?_); rintro e w4 ⟨v223, rfl, ho0, hb⟩; refine ⟨_, rfl, ?_⟩; have n0_ := Aside0.mk (Kd.R_lower ho0 (below_size (hb0_ HB.out))); have n1_ := Aside0.mk (below_step (hb0_ HB.out) hb); clear HB; have HO224 := n0_; have HB := n1_; clear n0_ n1_; (try clear hb); (try clear hb2); (try clear hk); (try clear hi); (try clear ho0); obtain ⟨Ao5, co5, eo5⟩ := Kd.R_slice HO224.out; subst eo5))
  go_ret2
  exact ⟨_, rf_, rn_, (hb0_ HB.out)⟩
 ·rw [if_neg c3] at H
  have c3b0 : decide (8 < (t222.length : Int)) = false := decide_eq_false c3
  have c3b1 : decide (8 < t222.length) = false := decide_eq_false (by omega)
  clear c3
  have H' := Aside0.mk H
  clear H
  go_enter Tryz.func43, Tryz.ntmps43
  go_wp2_with (first | ((with_reducible refine gate_callee (f := 59) rfl ?_); refine goesL_ (some 8) rfl rfl Tryz.func59 (by kernel_rfl) rfl #[.string a0, .string (⟨#[46]⟩ : ByteArray)] rfl (by (try simp only [List.map_toArray, List.map_cons, List.map_nil]); first | done | rfl | (simp only [List.length_drop, List.length_take]; rfl)) ?_; (with_reducible refine (strings_Split.calls a0 (⟨#[46]⟩ : ByteArray) t222 _ A2.out (hG.at (hb0_ HB.out))).mono ?_); rintro e w6 ⟨v223, rfl, ho0, hb⟩; refine ⟨_, rfl, ?_⟩; have n0_ := Aside0.mk (Kd.R_lower ho0 (below_size (hb0_ HB.out))); have n1_ := Aside0.mk (below_step (hb0_ HB.out) hb); clear HB; have HO224 := n0_; have HB := n1_; clear n0_ n1_; (try clear hb); (try clear hb2); (try clear hk); (try clear hi); (try clear ho0); obtain ⟨Ao7, co7, eo7⟩ := Kd.R_slice HO224.out; subst eo7))
  go_loopg [14] k (fun kq v14 w' => ∃ (x14_1 : Int), v14 = .int .i64 x14_1 ∧ Aside0 (traits_Class.l0 kq t222 t222 (t222.length : Int) x14_1 = some (r1, r2)) ∧ Aside0 (kq ≤ k) ∧ Aside0 (Kd.R Kd.string 9 w' w.heap.size (fun _ => True) (.slice Ao7 t222.length co7) t222) ∧ Aside0 (Kd.R Kd.string 9 w' w.heap.size (fun _ => True) (.slice Ao7 t222.length co7) t222) ∧ Aside0 (Below w.heap.size w w'))
  case atStart => exact ⟨(0), (by first | rfl | (simp; done) | (simp [*]; done)), H', ⟨Nat.le_refl _⟩, ⟨by (with_reducible repeat (first | apply Kd.R_alloc | apply Kd.R_drewN | apply Kd.R_drew)); exact HO224.out⟩, ⟨by (with_reducible repeat (first | apply Kd.R_alloc | apply Kd.R_drewN | apply Kd.R_drew)); exact HO224.out⟩, ⟨(hb0_ HB.out)⟩⟩
  case round =>
   clear H'
   try clear p2
   try clear c3
   try clear c3b0
   try clear c3b1
   try clear c4
   try clear c5
   obtain ⟨x14_1, rfl, HA, HK1, HO_4, HO_12, HB⟩ := hrel
   cases gk with
   | zero => exact absurd HA.out (by simp [traits_Class.l0])
   | succ k1 =>
    have H := HA.out
    clear HA
    simp only [traits_Class.l0] at H
    by_cases c8 : x14_1 < (t222.length : Int)
    ·rw [if_pos c8] at H
     have c8b0 : decide (x14_1 < (t222.length : Int)) = true := decide_eq_true c8
     clear c8
     by_cases c9 : 0 ≤ x14_1
     ·rw [if_pos c9] at H
      have c9b0 : decide (0 ≤ x14_1) = true := decide_eq_true c9
      clear c9
      by_cases c10 : x14_1 < (t222.length : Int)
      ·rw [if_pos c10] at H
       have c10b0 : decide (x14_1 < (t222.length : Int)) = true := decide_eq_true c10
       clear c10
       replace H := Option.bind_eq_some_iff.mp H
       obtain ⟨t226, A110, H⟩ := H
       replace H : (if t226 = true then (traits_Class.l0 k1 t222 t222 (t222.length : Int) (wrap64 (x14_1 + 1))) else (some (([] : List ByteArray), 140))) = some (r1, r2) := H
       have A11 := Aside0.mk A110
       clear A110
       by_cases c12 : t226 = true
       ·subst c12
        have H1 : (traits_Class.l0 k1 t222 t222 (t222.length : Int) (wrap64 (x14_1 + 1))) = some (r1, r2) := by rw [if_pos rfl] at H; exact H
        clear H
        have H := H1
        clear H1
        have H' := Aside0.mk H
        clear H
        have p225 : 0 ≤ (x14_1 : Int) := od_
        have q225 : x14_1 < (t222.length : Int) := od_
        obtain ⟨ad225, e225, hx225_0⟩ := Kd.at_string (Kd.R_reads' HO_12.out).2.2 x14_1 p225 q225
        cases e225
        replace p225 := eq_true p225
        replace q225 := eq_true q225
        go_wp2_with (first | ((with_reducible refine gate_callee (f := 47) rfl ?_); refine goesL_ (some 19) rfl rfl Tryz.func47 (by kernel_rfl) rfl #[.string (rdOf ByteArray.empty t222 x14_1)] rfl (by (try simp only [List.map_toArray, List.map_cons, List.map_nil]); first | done | rfl | (simp only [List.length_drop, List.length_take]; rfl)) ?_; (with_reducible refine (tokens_Word.calls (rdOf ByteArray.empty t222 x14_1) true _ A11.out (hG.at (hb0_ HB.out))).mono ?_); rintro e w13 ⟨rfl, hb⟩; refine ⟨_, rfl, ?_⟩; have n0_ := Aside0.mk (Kd.R_below (by (with_reducible repeat (first | apply Kd.R_alloc | apply Kd.R_drewN | apply Kd.R_drew)); exact HO_4.out) hb); have n1_ := Aside0.mk (Kd.R_below (by (with_reducible repeat (first | apply Kd.R_alloc | apply Kd.R_drewN | apply Kd.R_drew)); exact HO_12.out) hb); have n2_ := Aside0.mk (below_step (hb0_ HB.out) hb); clear HO_4; clear HO_12; clear HB; have HO_4 := n0_; have HO_12 := n1_; have HB := n2_; clear n0_ n1_ n2_; (try clear hb); (try clear hb2); (try clear hk); (try clear hi)))
        go_roundg k1
        case measure => have := HK1.out; omega
        case rel => exact ⟨(wrap64 (x14_1 + 1)), (by first | rfl | (simp; done) | (simp [*]; done)), H', ⟨by have := HK1.out; omega⟩, ⟨by (with_reducible repeat (first | apply Kd.R_alloc | apply Kd.R_drewN | apply Kd.R_drew)); exact HO_4.out⟩, ⟨by (with_reducible repeat (first | apply Kd.R_alloc | apply Kd.R_drewN | apply Kd.R_drew)); exact HO_12.out⟩, ⟨(hb0_ HB.out)⟩⟩
       ·replace c12 := Bool.eq_false_iff.mpr c12
        subst c12
        have H1 : (some (([] : List ByteArray), 140)) = some (r1, r2) := by rw [if_neg (show ¬ (false = true) by decide)] at H; exact H
        clear H
        have H := H1
        clear H1
        simp only [Option.some.injEq, Prod.mk.injEq] at H
        obtain ⟨rfl, rfl⟩ := H
        have p225 : 0 ≤ (x14_1 : Int) := od_
        have q225 : x14_1 < (t222.length : Int) := od_
        obtain ⟨ad225, e225, hx225_0⟩ := Kd.at_string (Kd.R_reads' HO_12.out).2.2 x14_1 p225 q225
        cases e225
        replace p225 := eq_true p225
        replace q225 := eq_true q225
        go_wp2_with (first | ((with_reducible refine gate_callee (f := 47) rfl ?_); refine goesL_ (some 19) rfl rfl Tryz.func47 (by kernel_rfl) rfl #[.string (rdOf ByteArray.empty t222 x14_1)] rfl (by (try simp only [List.map_toArray, List.map_cons, List.map_nil]); first | done | rfl | (simp only [List.length_drop, List.length_take]; rfl)) ?_; (with_reducible refine (tokens_Word.calls (rdOf ByteArray.empty t222 x14_1) false _ A11.out (hG.at (hb0_ HB.out))).mono ?_); rintro e w14 ⟨rfl, hb⟩; refine ⟨_, rfl, ?_⟩; have n0_ := Aside0.mk (Kd.R_below (by (with_reducible repeat (first | apply Kd.R_alloc | apply Kd.R_drewN | apply Kd.R_drew)); exact HO_4.out) hb); have n1_ := Aside0.mk (Kd.R_below (by (with_reducible repeat (first | apply Kd.R_alloc | apply Kd.R_drewN | apply Kd.R_drew)); exact HO_12.out) hb); have n2_ := Aside0.mk (below_step (hb0_ HB.out) hb); clear HO_4; clear HO_12; clear HB; have HO_4 := n0_; have HO_12 := n1_; have HB := n2_; clear n0_ n1_ n2_; (try clear hb); (try clear hb2); (try clear hk); (try clear hi)))
        go_ret2
        exact ⟨_, rf_, rn_, (hb0_ HB.out)⟩
      ·rw [if_neg c10] at H
       exact absurd H (by simp)
     ·rw [if_neg c9] at H
      exact absurd H (by simp)
    ·rw [if_neg c8] at H
     have c8b0 : decide (x14_1 < (t222.length : Int)) = false := decide_eq_false c8
     clear c8
     simp only [Option.some.injEq, Prod.mk.injEq] at H
     obtain ⟨rfl, rfl⟩ := H
     go_wp2
     go_ret2
     exact ⟨_, rf_, by (with_reducible repeat (first | apply Kd.R_alloc | apply Kd.R_drewN | apply Kd.R_drew)); exact HO_4.out, (hb0_ HB.out)⟩
def slices_Equal_string_string.l0 : Nat → List ByteArray → List ByteArray → Int → Int → Option (Bool)
 | 0, _, _, _, _ => none
 | k + 1, x0, x1, x12, x13 => if x13 < x12 then (if 0 ≤ x13 then (if x13 < (x0.length : Int) then (if x13 < (x1.length : Int) then (if (rdOf ByteArray.empty x0 x13).toList = (rdOf ByteArray.empty x1 x13).toList then (slices_Equal_string_string.l0 k x0 x1 x12 (wrap64 (x13 + 1))) else (some false)) else (none)) else (none)) else (none)) else (some true)
def slices_Equal_string_string.f (k : Nat) (l0 : List ByteArray) (l1 : List ByteArray) : Option (Bool) := if (l0.length : Int) = (l1.length : Int) then (slices_Equal_string_string.l0 k l0 l1 (l0.length : Int) 0) else (some false)
theorem slices_Equal_string_string.mono_l : ∀ k, (∀ y0 y1 y2 y3, LeO (slices_Equal_string_string.l0 k y0 y1 y2 y3) (slices_Equal_string_string.l0 (k + 1) y0 y1 y2 y3))
 | 0 => fun _ _ _ _ r h => by simp [slices_Equal_string_string.l0] at h
 | k + 1 => by
  have ih0 := slices_Equal_string_string.mono_l k
  ·intro y0 y1 y2 y3
   unfold slices_Equal_string_string.l0
   repeat' first
   | (with_reducible exact ih0 _ _ _ _)
   | (with_reducible exact LeO.refl _)
   | (with_reducible exact LeO.none _)
   | (with_reducible refine LeO.ite ?_ ?_)
   | (with_reducible refine LeO.bind ?_ (fun _ => ?_))
   | exact ih0 _ _ _ _
   | exact LeO.none _
   | refine LeO.ite ?_ ?_
   | refine LeO.bind ?_ (fun _ => ?_)
theorem slices_Equal_string_string.mono : ∀ a0 a1 k, LeO (slices_Equal_string_string.f k a0 a1) (slices_Equal_string_string.f (k + 1) a0 a1) := by
 intro a0 a1 k
 have ih0 := slices_Equal_string_string.mono_l k
 unfold slices_Equal_string_string.f
 repeat' first
   | (with_reducible exact ih0 _ _ _ _)
   | (with_reducible exact LeO.refl _)
   | (with_reducible exact LeO.none _)
   | (with_reducible refine LeO.ite ?_ ?_)
   | (with_reducible refine LeO.bind ?_ (fun _ => ?_))
   | exact ih0 _ _ _ _
   | exact LeO.none _
   | refine LeO.ite ?_ ?_
   | refine LeO.bind ?_ (fun _ => ?_)
set_option maxHeartbeats 8000000 in
set_option maxRecDepth 100000 in
theorem slices_Equal_string_string.calls (k : Nat) (A0 : Option Addr) (c0 : Nat) (l0 : List ByteArray) (A1 : Option Addr) (c1 : Nat) (l1 : List ByteArray) (r : Bool) (w : World) (hr0 : Kd.C Kd.string w A0 l0.length l0) (hc0 : l0.length ≤ c0) (hr1 : Kd.C Kd.string w A1 l1.length l1) (hc1 : l1.length ≤ c1) (h : slices_Equal_string_string.f k l0 l1 = some r) :
  Calls Tryz.prog 44 #[.slice A0 l0.length c0, .slice A1 l1.length c1] w fun e w' => e = .returned (.bool r) ∧ Drawn0 w w' := by
 have HR0 := Aside0.mk hr0
 have HC0 := Aside0.mk hc0
 clear hr0 hc0
 have HR1 := Aside0.mk hr1
 have HC1 := Aside0.mk hc1
 clear hr1 hc1
 have H : (if (l0.length : Int) = (l1.length : Int) then (slices_Equal_string_string.l0 k l0 l1 (l0.length : Int) 0) else (some false)) = some r := h
 clear h
 by_cases c3 : (l0.length : Int) = (l1.length : Int)
 ·rw [if_pos c3] at H
  have c3b0 : ((l0.length : Int) == (l1.length : Int)) = true := beq_iff_eq.mpr c3
  have c3b1 : ((l0.length : Int) != (l1.length : Int)) = false := bne_eq_false_iff_eq.mpr c3
  have c3b2 : (l0.length == l1.length) = true := by first | simpa using c3 | (simp at c3 ⊢; omega)
  clear c3
  have H' := Aside0.mk H
  clear H
  go_enter Tryz.func44, Tryz.ntmps44
  go_wp2
  repeat (go_quiet (fail); try go_wp2)
  go_loopg [13] k (fun kq v13 w' => ∃ (x13_1 : Int), v13 = .int .i64 x13_1 ∧ Aside0 (slices_Equal_string_string.l0 kq l0 l1 (l0.length : Int) x13_1 = some r) ∧ Aside0 (kq ≤ k) ∧ Drawn0 w w')
  case atStart => exact ⟨(0), (by first | rfl | (simp; done) | (simp [*]; done)), H', ⟨Nat.le_refl _⟩, by repeat (first | exact Drawn0.refl _ | apply Drawn0.step)⟩
  case round =>
   clear H'
   try clear c1
   try clear p2
   try clear c3
   try clear c3b0
   try clear c3b1
   try clear c3b2
   obtain ⟨x13_1, rfl, HA, HK1, ⟨m1, rfl⟩⟩ := hrel
   cases gk with
   | zero => exact absurd HA.out (by simp [slices_Equal_string_string.l0])
   | succ k1 =>
    have H := HA.out
    clear HA
    simp only [slices_Equal_string_string.l0] at H
    by_cases c4 : x13_1 < (l0.length : Int)
    ·rw [if_pos c4] at H
     have c4b0 : decide (x13_1 < (l0.length : Int)) = true := decide_eq_true c4
     clear c4
     by_cases c5 : 0 ≤ x13_1
     ·rw [if_pos c5] at H
      have c5b0 : decide (0 ≤ x13_1) = true := decide_eq_true c5
      clear c5
      by_cases c6 : x13_1 < (l0.length : Int)
      ·rw [if_pos c6] at H
       have c6b0 : decide (x13_1 < (l0.length : Int)) = true := decide_eq_true c6
       clear c6
       by_cases c7 : x13_1 < (l1.length : Int)
       ·rw [if_pos c7] at H
        have c7b0 : decide (x13_1 < (l1.length : Int)) = true := decide_eq_true c7
        clear c7
        by_cases c8 : (rdOf ByteArray.empty l0 x13_1).toList = (rdOf ByteArray.empty l1 x13_1).toList
        ·rw [if_pos c8] at H
         have c8b0 : ((rdOf ByteArray.empty l0 x13_1).toList == (rdOf ByteArray.empty l1 x13_1).toList) = true := beq_iff_eq.mpr c8
         have c8b1 : ((rdOf ByteArray.empty l0 x13_1).toList != (rdOf ByteArray.empty l1 x13_1).toList) = false := bne_eq_false_iff_eq.mpr c8
         clear c8
         have H' := Aside0.mk H
         clear H
         have p227 : 0 ≤ (x13_1 : Int) := od_
         have q227 : x13_1 < (l0.length : Int) := od_
         obtain ⟨ad227, e227, hx227_0⟩ := Kd.at_string HR0.out x13_1 p227 q227
         cases e227
         replace p227 := eq_true p227
         replace q227 := eq_true q227
         have p228 : 0 ≤ (x13_1 : Int) := od_
         have q228 : x13_1 < (l1.length : Int) := od_
         obtain ⟨ad228, e228, hx228_0⟩ := Kd.at_string HR1.out x13_1 p228 q228
         cases e228
         replace p228 := eq_true p228
         replace q228 := eq_true q228
         go_wp2
         repeat (go_quiet (fail); try go_wp2)
         go_roundg k1
         case measure => have := HK1.out; omega
         case rel => exact ⟨(wrap64 (x13_1 + 1)), (by first | rfl | (simp; done) | (simp [*]; done)), H', ⟨by have := HK1.out; omega⟩, by repeat (first | exact Drawn0.refl _ | apply Drawn0.step)⟩
        ·rw [if_neg c8] at H
         have c8b0 : ((rdOf ByteArray.empty l0 x13_1).toList == (rdOf ByteArray.empty l1 x13_1).toList) = false := beq_eq_false_iff_ne.mpr c8
         have c8b1 : ((rdOf ByteArray.empty l0 x13_1).toList != (rdOf ByteArray.empty l1 x13_1).toList) = true := bne_iff_ne.mpr c8
         obtain rfl := Option.some.inj H
         have p227 : 0 ≤ (x13_1 : Int) := od_
         have q227 : x13_1 < (l0.length : Int) := od_
         obtain ⟨ad227, e227, hx227_0⟩ := Kd.at_string HR0.out x13_1 p227 q227
         cases e227
         replace p227 := eq_true p227
         replace q227 := eq_true q227
         have p228 : 0 ≤ (x13_1 : Int) := od_
         have q228 : x13_1 < (l1.length : Int) := od_
         obtain ⟨ad228, e228, hx228_0⟩ := Kd.at_string HR1.out x13_1 p228 q228
         cases e228
         replace p228 := eq_true p228
         replace q228 := eq_true q228
         go_wp2
         repeat (go_quiet (fail); try go_wp2)
         go_ret
         exact ⟨by first | rfl | (simp; done) | (simp [*]; done), by repeat (first | exact Drawn0.refl _ | apply Drawn0.step)⟩
       ·rw [if_neg c7] at H
        exact absurd H (by simp)
      ·rw [if_neg c6] at H
       exact absurd H (by simp)
     ·rw [if_neg c5] at H
      exact absurd H (by simp)
    ·rw [if_neg c4] at H
     have c4b0 : decide (x13_1 < (l0.length : Int)) = false := decide_eq_false c4
     clear c4
     obtain rfl := Option.some.inj H
     go_wp2
     repeat (go_quiet (fail); try go_wp2)
     go_ret
     exact ⟨by first | rfl | (simp; done) | (simp [*]; done), by repeat (first | exact Drawn0.refl _ | apply Drawn0.step)⟩
 ·rw [if_neg c3] at H
  have c3b0 : ((l0.length : Int) == (l1.length : Int)) = false := beq_eq_false_iff_ne.mpr c3
  have c3b1 : ((l0.length : Int) != (l1.length : Int)) = true := bne_iff_ne.mpr c3
  have c3b2 : (l0.length == l1.length) = false := by first | simpa using c3 | (simp at c3 ⊢; omega)
  obtain rfl := Option.some.inj H
  go_enter Tryz.func44, Tryz.ntmps44
  go_wp2
  repeat (go_quiet (fail); try go_wp2)
  go_ret
  exact ⟨by first | rfl | (simp; done) | (simp [*]; done), by repeat (first | exact Drawn0.refl _ | apply Drawn0.step)⟩
def traits_Covers.j0 : Nat → ByteArray → List ByteArray → Int → Bool → Option (Bool)
 | 0, _, _, _, _ => none
 | k + 1, x0, x5, x6, x18 => if x18 = true then (some (x6 == 0)) else ((traits_Class.f k x0).bind fun bt233 => (if bt233.2 = 0 then (if (bt233.1.length : Int) ≤ (x5.length : Int) then (if 0 ≤ (bt233.1.length : Int) then ((slices_Equal_string_string.f k bt233.1 (x5.take ((bt233.1.length : Int) : Int).toNat)).bind fun t241 => (some t241)) else (none)) else (some false)) else (some false)))
def traits_Covers.f (k : Nat) (a0 : ByteArray) (a1 : ByteArray) : Option (Bool) := (traits_Class.f k a1).bind fun bt229 => (if bt229.2 = 0 then (traits_Covers.j0 k a0 bt229.1 bt229.2 (a0.toList == ([] : List UInt8))) else (traits_Covers.j0 k a0 bt229.1 bt229.2 true))
theorem traits_Covers.mono_l : ∀ k, (∀ y0 y1 y2 y3, LeO (traits_Covers.j0 k y0 y1 y2 y3) (traits_Covers.j0 (k + 1) y0 y1 y2 y3))
 | 0 => fun _ _ _ _ r h => by simp [traits_Covers.j0] at h
 | k + 1 => by
  have ih0 := traits_Covers.mono_l k
  ·intro y0 y1 y2 y3
   unfold traits_Covers.j0
   repeat' first
   | (with_reducible exact ih0 _ _ _ _)
   | (with_reducible exact slices_Equal_string_string.mono _ _ _)
   | (with_reducible exact traits_Class.mono _ _)
   | (with_reducible exact LeO.refl _)
   | (with_reducible exact LeO.none _)
   | (with_reducible refine LeO.ite ?_ ?_)
   | (with_reducible refine LeO.bind ?_ (fun _ => ?_))
   | exact ih0 _ _ _ _
   | exact slices_Equal_string_string.mono _ _ _
   | exact traits_Class.mono _ _
   | exact LeO.none _
   | refine LeO.ite ?_ ?_
   | refine LeO.bind ?_ (fun _ => ?_)
theorem traits_Covers.mono : ∀ a0 a1 k, LeO (traits_Covers.f k a0 a1) (traits_Covers.f (k + 1) a0 a1) := by
 intro a0 a1 k
 have ih0 := traits_Covers.mono_l k
 unfold traits_Covers.f
 repeat' first
   | (with_reducible exact ih0 _ _ _ _)
   | (with_reducible exact slices_Equal_string_string.mono _ _ _)
   | (with_reducible exact traits_Class.mono _ _)
   | (with_reducible exact LeO.refl _)
   | (with_reducible exact LeO.none _)
   | (with_reducible refine LeO.ite ?_ ?_)
   | (with_reducible refine LeO.bind ?_ (fun _ => ?_))
   | exact ih0 _ _ _ _
   | exact slices_Equal_string_string.mono _ _ _
   | exact traits_Class.mono _ _
   | exact LeO.none _
   | refine LeO.ite ?_ ?_
   | refine LeO.bind ?_ (fun _ => ?_)
set_option maxHeartbeats 8000000 in
set_option maxRecDepth 100000 in
theorem traits_Covers.calls (k : Nat) (a0 : ByteArray) (a1 : ByteArray) (r : Bool) (w : World) (h : traits_Covers.f k a0 a1 = some r) (hG : GT w) :
  Calls Tryz.prog 26 #[.string a0, .string a1] w fun e w' => e = .returned (.bool r) ∧ Below w.heap.size w w' := by
 have HB := Aside0.mk (Below.refl w.heap.size w)
 have H : ((traits_Class.f k a1).bind fun bt229 => (if bt229.2 = 0 then (traits_Covers.j0 k a0 bt229.1 bt229.2 (a0.toList == ([] : List UInt8))) else (traits_Covers.j0 k a0 bt229.1 bt229.2 true))) = some r := h
 clear h
 replace H := Option.bind_eq_some_iff.mp H
 obtain ⟨⟨t229, t230⟩, A30, H⟩ := H
 replace H : (if t230 = 0 then (traits_Covers.j0 k a0 t229 t230 (a0.toList == ([] : List UInt8))) else (traits_Covers.j0 k a0 t229 t230 true)) = some r := H
 have A3 := Aside0.mk A30
 clear A30
 have HC4 := Aside0.mk H
 clear H
 go_enter Tryz.func26, Tryz.ntmps26
 go_upto_region 2 with (first | ((with_reducible refine gate_callee (f := 43) rfl ?_); refine goesL_ (some 10) rfl rfl Tryz.func43 (by kernel_rfl) rfl #[.string a1] rfl (by (try simp only [List.map_toArray, List.map_cons, List.map_nil]); first | done | rfl | (simp only [List.length_drop, List.length_take]; rfl)) ?_; (with_reducible refine (traits_Class.calls k a1 t229 t230 _ A3.out (hG.at (hb0_ HB.out))).mono ?_); rintro e w5 ⟨v231, rfl, ho0, hb⟩; refine ⟨_, rfl, ?_⟩; have n0_ := Aside0.mk (Kd.R_lower ho0 (below_size (hb0_ HB.out))); have n1_ := Aside0.mk (below_step (hb0_ HB.out) hb); clear HB; have HO232 := n0_; have HB := n1_; clear n0_ n1_; (try clear hb); (try clear hb2); (try clear hk); (try clear hi); (try clear ho0)))
 (try simp only [Act.put, List.setIfInBounds_toArray, List.set_cons_zero, List.set_cons_succ])
 go_cut [18] (fun v18 wc => ∃ (kq : Nat) (x18_3 : Bool), v18 = .bool x18_3 ∧ Aside0 (traits_Covers.j0 kq a0 t229 t230 x18_3 = some r) ∧ Aside0 (kq ≤ k) ∧ Aside0 (Kd.R Kd.string 9 wc w.heap.size (fun _ => True) v231 t229) ∧ Aside0 (Below w.heap.size w wc))
 case first =>
  have H := HC4.out
  clear HC4
  by_cases c6 : t230 = 0
  ·rw [if_pos c6] at H
   have c6b0 : (t230 == 0) = true := beq_iff_eq.mpr c6
   have c6b1 : (t230 != 0) = false := bne_eq_false_iff_eq.mpr c6
   clear c6
   (first | rw [c6b0] | (simp only [i64_w, i32_w]; rw [c6b0]) | skip)
   have H' := Aside0.mk H
   clear H
   go_wp2
   go_meet
   case rel => exact ⟨_, ((a0.toList == ([] : List UInt8))), (by first | rfl | (simp; done) | (simp [*]; done)), H', ⟨by first | omega | exact Nat.le_refl _⟩, ⟨by (with_reducible repeat (first | apply Kd.R_alloc | apply Kd.R_drewN | apply Kd.R_drew)); exact HO232.out⟩, ⟨(hb0_ HB.out)⟩⟩
  ·rw [if_neg c6] at H
   have c6b0 : (t230 == 0) = false := beq_eq_false_iff_ne.mpr c6
   have c6b1 : (t230 != 0) = true := bne_iff_ne.mpr c6
   (first | rw [c6b0] | (simp only [i64_w, i32_w]; rw [c6b0]) | skip)
   have H' := Aside0.mk H
   clear H
   go_wp2
   go_meet
   case rel => exact ⟨_, (true), (by first | rfl | (simp; done) | (simp [*]; done)), H', ⟨by first | omega | exact Nat.le_refl _⟩, ⟨by (with_reducible repeat (first | apply Kd.R_alloc | apply Kd.R_drewN | apply Kd.R_drew)); exact HO232.out⟩, ⟨(hb0_ HB.out)⟩⟩
 case rest =>
  clear HC4
  try clear c2
  try clear p2
  try clear c4
  try clear c6
  try clear c6b0
  try clear c6b1
  obtain ⟨kq, x18_3, rfl, HA, HJ3, HO_5, HB⟩ := hcut
  cases kq with
  | zero => exact absurd HA.out (by simp [traits_Covers.j0])
  | succ kj3 =>
   have H := HA.out
   clear HA
   simp only [traits_Covers.j0] at H
   by_cases c7 : x18_3 = true
   ·subst c7
    have H1 : (some (t230 == 0)) = some r := by rw [if_pos rfl] at H; exact H
    clear H
    have H := H1
    clear H1
    obtain rfl := Option.some.inj H
    go_wp2
    go_ret
    exact ⟨rf_, (hb0_ HB.out)⟩
   ·replace c7 := Bool.eq_false_iff.mpr c7
    subst c7
    have H1 : ((traits_Class.f kj3 a0).bind fun bt233 => (if bt233.2 = 0 then (if (bt233.1.length : Int) ≤ (t229.length : Int) then (if 0 ≤ (bt233.1.length : Int) then ((slices_Equal_string_string.f kj3 bt233.1 (t229.take ((bt233.1.length : Int) : Int).toNat)).bind fun t241 => (some t241)) else (none)) else (some false)) else (some false))) = some r := by rw [if_neg (show ¬ (false = true) by decide)] at H; exact H
    clear H
    have H := H1
    clear H1
    replace H := Option.bind_eq_some_iff.mp H
    obtain ⟨⟨t233, t234⟩, A80, H⟩ := H
    replace H : (if t234 = 0 then (if (t233.length : Int) ≤ (t229.length : Int) then (if 0 ≤ (t233.length : Int) then ((slices_Equal_string_string.f kj3 t233 (t229.take ((t233.length : Int) : Int).toNat)).bind fun t241 => (some t241)) else (none)) else (some false)) else (some false)) = some r := H
    have A8 := Aside0.mk A80
    clear A80
    by_cases c9 : t234 = 0
    ·rw [if_pos c9] at H
     have c9b0 : (t234 == 0) = true := beq_iff_eq.mpr c9
     have c9b1 : (t234 != 0) = false := bne_eq_false_iff_eq.mpr c9
     clear c9
     by_cases c10 : (t233.length : Int) ≤ (t229.length : Int)
     ·rw [if_pos c10] at H
      have c10b0 : decide ((t233.length : Int) ≤ (t229.length : Int)) = true := decide_eq_true c10
      have c10b1 : decide (t233.length ≤ t229.length) = true := decide_eq_true (Int.ofNat_le.mp c10)
      clear c10
      by_cases c11 : 0 ≤ (t233.length : Int)
      ·rw [if_pos c11] at H
       have c11b0 := eq_true c11
       have c11b1 : decide (0 ≤ (t233.length : Int)) = true := decide_eq_true c11
       clear c11
       have c12b0 := eq_true (od_ : (t233.length : Int) ≤ (t229.length : Int))
       obtain ⟨y237, hy237⟩ : ∃ y_ : List ByteArray, y_ = (t229.take ((t233.length : Int) : Int).toNat) := ⟨_, rfl⟩
       replace H : ((slices_Equal_string_string.f kj3 t233 y237).bind fun t241 => (some t241)) = some r := by first | (rw [hy237]; with_reducible exact H) | (have H2_ := (Option.bind_some _ _).symm.trans H; rw [hy237]; with_reducible exact H2_) | (have H2_ := (Option.bind_some _ _).symm.trans H; with_reducible exact H2_) | with_reducible exact H | (rw [hy237]; exact H) | exact H
       have Ny237 := Aside0.mk hy237
       clear hy237
       replace H := Option.bind_eq_some_iff.mp H
       obtain ⟨t241, A130, H⟩ := H
       replace H : (some t241) = some r := H
       have A13 := Aside0.mk A130
       clear A130
       obtain rfl := Option.some.inj H
       go_wp2_with (first | ((with_reducible refine gate_callee (f := 43) rfl ?_); refine goesL_ (some 23) rfl rfl Tryz.func43 (by kernel_rfl) rfl #[.string a0] rfl (by (try simp only [List.map_toArray, List.map_cons, List.map_nil]); first | done | rfl | (simp only [List.length_drop, List.length_take]; rfl)) ?_; (with_reducible refine (traits_Class.calls kj3 a0 t233 t234 _ A8.out (hG.at (hb0_ HB.out))).mono ?_); rintro e w14 ⟨v235, rfl, ho0, hb⟩; refine ⟨_, rfl, ?_⟩; have n0_ := Aside0.mk (Kd.R_elder' (by (with_reducible repeat (first | apply Kd.R_alloc | apply Kd.R_drewN | apply Kd.R_drew)); exact HO_5.out) (Kd.R_base ho0) hb); have n1_ := Aside0.mk (Kd.R_lower (Kd.R_new' ho0 (Kd.R_lt (by (with_reducible repeat (first | apply Kd.R_alloc | apply Kd.R_drewN | apply Kd.R_drew)); exact HO_5.out))) (below_size (hb0_ HB.out))); have n2_ := Aside0.mk (below_step (hb0_ HB.out) hb); clear HO_5; clear HB; have HO_5 := n0_; have HO236 := n1_; have HB := n2_; clear n0_ n1_ n2_; (try clear hb); (try clear hb2); (try clear hk); (try clear hi); (try clear ho0); obtain ⟨Ao15, co15, eo15⟩ := Kd.R_slice HO236.out; subst eo15; obtain ⟨Ao16, co16, eo16⟩ := Kd.R_slice HO_5.out; subst eo16; have q17 : ((t233.length : Int) : Int) ≤ ((t229.length : Int) : Int) := od_; obtain ⟨i017, hi017, _, hsz17, _⟩ := info_parts info9; have hroom17 : t229.length ≤ co16 := (Kd.R_reads' HO_5.out).2.1; have hC17 : Kd.C Kd.string _ Ao16 t229.length t229 := (Kd.R_reads' HO_5.out).2.2; have hcut17 := cut_to (P := Tryz.prog) 23 9 .i64 Tryz.underlying23 hi017 Ao16 t229.length co16 (t233.length : Int) (od_) q17 hroom17; have hr17 := Kd.C_take (m := ((t233.length : Int) : Int).toNat) hC17 (by omega); have hy17 : y237.length = ((t233.length : Int) : Int).toNat := (by rw [Ny237.out, List.length_take]; omega); rw [← Ny237.out] at hr17; rw [← hy17] at hcut17; have HR240 := Aside0.mk hr17; have HC240 := Aside0.mk (show y237.length ≤ co16 from by omega); clear hr17 hC17 hroom17 hi017 hsz17; have KY17 := Aside0.mk hy17; clear hy17; have KL17 := Aside0.mk (show ((t233.length : Int) : Int).toNat ≤ t229.length from by omega); replace q17 := eq_true q17) | (go_at_call 44; (with_reducible refine (slices_Equal_string_string.calls kj3 _ _ t233 _ _ y237 t241 _ ?side1 ?side2 ?side3 ?side4 A13.out).mono ?_); (case side1 => repeat (first | exact (Kd.R_reads' HO236.out).2.2 | (with_reducible refine Kd.C_alloc ?_ _) | (with_reducible refine Kd.C_drewN ?_ _) | (with_reducible refine Kd.C_drew ?_))); (case side2 => exact (Kd.R_reads' HO236.out).2.1); (case side3 => repeat (first | exact (by repeat (first | (with_reducible exact HR240.out) | (with_reducible refine Kd.C_alloc ?_ _) | (with_reducible refine Kd.C_drewN ?_ _) | (with_reducible refine Kd.C_drew ?_) | exact HR240.out)) | (with_reducible refine Kd.C_alloc ?_ _) | (with_reducible refine Kd.C_drewN ?_ _) | (with_reducible refine Kd.C_drew ?_))); (case side4 => exact HC240.out); rintro e w' ⟨rfl, ⟨nd, rfl⟩⟩))
       go_ret
       exact ⟨rf_, (hb0_ HB.out)⟩
      ·rw [if_neg c11] at H
       exact absurd H (by simp)
     ·rw [if_neg c10] at H
      have c10b0 : decide ((t233.length : Int) ≤ (t229.length : Int)) = false := decide_eq_false c10
      have c10b1 : decide (t233.length ≤ t229.length) = false := decide_eq_false (fun h => c10 (Int.ofNat_le.mpr h))
      clear c10
      obtain rfl := Option.some.inj H
      go_wp2_with (first | ((with_reducible refine gate_callee (f := 43) rfl ?_); refine goesL_ (some 23) rfl rfl Tryz.func43 (by kernel_rfl) rfl #[.string a0] rfl (by (try simp only [List.map_toArray, List.map_cons, List.map_nil]); first | done | rfl | (simp only [List.length_drop, List.length_take]; rfl)) ?_; (with_reducible refine (traits_Class.calls kj3 a0 t233 t234 _ A8.out (hG.at (hb0_ HB.out))).mono ?_); rintro e w18 ⟨v235, rfl, ho0, hb⟩; refine ⟨_, rfl, ?_⟩; have n0_ := Aside0.mk (Kd.R_elder' (by (with_reducible repeat (first | apply Kd.R_alloc | apply Kd.R_drewN | apply Kd.R_drew)); exact HO_5.out) (Kd.R_base ho0) hb); have n1_ := Aside0.mk (Kd.R_lower (Kd.R_new' ho0 (Kd.R_lt (by (with_reducible repeat (first | apply Kd.R_alloc | apply Kd.R_drewN | apply Kd.R_drew)); exact HO_5.out))) (below_size (hb0_ HB.out))); have n2_ := Aside0.mk (below_step (hb0_ HB.out) hb); clear HO_5; clear HB; have HO_5 := n0_; have HO236 := n1_; have HB := n2_; clear n0_ n1_ n2_; (try clear hb); (try clear hb2); (try clear hk); (try clear hi); (try clear ho0); obtain ⟨Ao19, co19, eo19⟩ := Kd.R_slice HO236.out; subst eo19; obtain ⟨Ao20, co20, eo20⟩ := Kd.R_slice HO_5.out; subst eo20))
      go_ret
      exact ⟨rf_, (hb0_ HB.out)⟩
    ·rw [if_neg c9] at H
     have c9b0 : (t234 == 0) = false := beq_eq_false_iff_ne.mpr c9
     have c9b1 : (t234 != 0) = true := bne_iff_ne.mpr c9
     obtain rfl := Option.some.inj H
     go_wp2_with (first | ((with_reducible refine gate_callee (f := 43) rfl ?_); refine goesL_ (some 23) rfl rfl Tryz.func43 (by kernel_rfl) rfl #[.string a0] rfl (by (try simp only [List.map_toArray, List.map_cons, List.map_nil]); first | done | rfl | (simp only [List.length_drop, List.length_take]; rfl)) ?_; (with_reducible refine (traits_Class.calls kj3 a0 t233 t234 _ A8.out (hG.at (hb0_ HB.out))).mono ?_); rintro e w21 ⟨v235, rfl, ho0, hb⟩; refine ⟨_, rfl, ?_⟩; have n0_ := Aside0.mk (Kd.R_elder' (by (with_reducible repeat (first | apply Kd.R_alloc | apply Kd.R_drewN | apply Kd.R_drew)); exact HO_5.out) (Kd.R_base ho0) hb); have n1_ := Aside0.mk (Kd.R_lower (Kd.R_new' ho0 (Kd.R_lt (by (with_reducible repeat (first | apply Kd.R_alloc | apply Kd.R_drewN | apply Kd.R_drew)); exact HO_5.out))) (below_size (hb0_ HB.out))); have n2_ := Aside0.mk (below_step (hb0_ HB.out) hb); clear HO_5; clear HB; have HO_5 := n0_; have HO236 := n1_; have HB := n2_; clear n0_ n1_ n2_; (try clear hb); (try clear hb2); (try clear hk); (try clear hi); (try clear ho0)))
     go_ret
     exact ⟨rf_, (hb0_ HB.out)⟩
def tollbooklaw13_awake.f (k : Nat)  : Option (Bool) := (some (([(⟨2, 2, (⟨#[]⟩ : ByteArray), 0, (⟨0, 0⟩ : S42)⟩ : S44), (⟨4, 0, (⟨#[101, 117]⟩ : ByteArray), 0, (⟨0, 0⟩ : S42)⟩ : S44), (⟨3, 1, (⟨#[]⟩ : ByteArray), 0, (⟨0, 0⟩ : S42)⟩ : S44), (⟨5, 0, (⟨#[102, 111, 111, 100]⟩ : ByteArray), 0, (⟨0, 0⟩ : S42)⟩ : S44)] : List (S44)) : List (S44))).bind fun y242 => ((traits_Holds.f k y242 (([(⟨#[101, 117]⟩ : ByteArray)] : List ByteArray)) ([] : List ByteArray) 0 0 1).bind fun bt248 => ((traits_Holds.f k y242 (([(⟨#[101, 117]⟩ : ByteArray)] : List ByteArray)) (([(⟨#[102, 111, 111, 100]⟩ : ByteArray)] : List ByteArray)) 0 0 1).bind fun bt256 => (if bt248.1 = true then (if bt256.1 = true then (some false) else (if bt248.2 = 0 then (if bt256.2 = 0 then ((traits_Covers.f k (⟨#[102, 111, 111, 100]⟩ : ByteArray) (⟨#[102, 111, 111, 100, 46, 98, 114, 101, 97, 100]⟩ : ByteArray)).bind fun t258 => (some t258)) else (some false)) else (some false))) else (some false))))
theorem tollbooklaw13_awake.mono : ∀ k, LeO (tollbooklaw13_awake.f k ) (tollbooklaw13_awake.f (k + 1) ) := by
 intro  k
 unfold tollbooklaw13_awake.f
 repeat' first
   | (with_reducible exact traits_Covers.mono _ _ _)
   | (with_reducible exact traits_Holds.mono _ _ _ _ _ _ _)
   | (with_reducible exact LeO.refl _)
   | (with_reducible exact LeO.none _)
   | (with_reducible refine LeO.ite ?_ ?_)
   | (with_reducible refine LeO.bind ?_ (fun _ => ?_))
   | exact traits_Covers.mono _ _ _
   | exact traits_Holds.mono _ _ _ _ _ _ _
   | exact LeO.none _
   | refine LeO.ite ?_ ?_
   | refine LeO.bind ?_ (fun _ => ?_)
set_option maxHeartbeats 8000000 in
set_option maxRecDepth 100000 in
theorem tollbooklaw13_awake.calls (k : Nat)  (w : World) (h : tollbooklaw13_awake.f k  = some true) (hG : GT w) :
  Calls Tryz.prog 11 #[] w fun e w' => e = .returned (.bool true) ∧ Below w.heap.size w w' := by
 have hu44 := Tryz.underlying44
 have hu25 := Tryz.underlying25
 have HB := Aside0.mk (Below.refl w.heap.size w)
 have H : ((some (([(⟨2, 2, (⟨#[]⟩ : ByteArray), 0, (⟨0, 0⟩ : S42)⟩ : S44), (⟨4, 0, (⟨#[101, 117]⟩ : ByteArray), 0, (⟨0, 0⟩ : S42)⟩ : S44), (⟨3, 1, (⟨#[]⟩ : ByteArray), 0, (⟨0, 0⟩ : S42)⟩ : S44), (⟨5, 0, (⟨#[102, 111, 111, 100]⟩ : ByteArray), 0, (⟨0, 0⟩ : S42)⟩ : S44)] : List (S44)) : List (S44))).bind fun y242 => ((traits_Holds.f k y242 (([(⟨#[101, 117]⟩ : ByteArray)] : List ByteArray)) ([] : List ByteArray) 0 0 1).bind fun bt248 => ((traits_Holds.f k y242 (([(⟨#[101, 117]⟩ : ByteArray)] : List ByteArray)) (([(⟨#[102, 111, 111, 100]⟩ : ByteArray)] : List ByteArray)) 0 0 1).bind fun bt256 => (if bt248.1 = true then (if bt256.1 = true then (some false) else (if bt248.2 = 0 then (if bt256.2 = 0 then ((traits_Covers.f k (⟨#[102, 111, 111, 100]⟩ : ByteArray) (⟨#[102, 111, 111, 100, 46, 98, 114, 101, 97, 100]⟩ : ByteArray)).bind fun t258 => (some t258)) else (some false)) else (some false))) else (some false))))) = some true := h
 clear h
 obtain ⟨y242, hy242⟩ : ∃ y_ : List (S44), y_ = (([(⟨2, 2, (⟨#[]⟩ : ByteArray), 0, (⟨0, 0⟩ : S42)⟩ : S44), (⟨4, 0, (⟨#[101, 117]⟩ : ByteArray), 0, (⟨0, 0⟩ : S42)⟩ : S44), (⟨3, 1, (⟨#[]⟩ : ByteArray), 0, (⟨0, 0⟩ : S42)⟩ : S44), (⟨5, 0, (⟨#[102, 111, 111, 100]⟩ : ByteArray), 0, (⟨0, 0⟩ : S42)⟩ : S44)] : List (S44))) := ⟨_, rfl⟩
 replace H : ((traits_Holds.f k y242 (([(⟨#[101, 117]⟩ : ByteArray)] : List ByteArray)) ([] : List ByteArray) 0 0 1).bind fun bt248 => ((traits_Holds.f k y242 (([(⟨#[101, 117]⟩ : ByteArray)] : List ByteArray)) (([(⟨#[102, 111, 111, 100]⟩ : ByteArray)] : List ByteArray)) 0 0 1).bind fun bt256 => (if bt248.1 = true then (if bt256.1 = true then (some false) else (if bt248.2 = 0 then (if bt256.2 = 0 then ((traits_Covers.f k (⟨#[102, 111, 111, 100]⟩ : ByteArray) (⟨#[102, 111, 111, 100, 46, 98, 114, 101, 97, 100]⟩ : ByteArray)).bind fun t258 => (some t258)) else (some false)) else (some false))) else (some false)))) = some true := by first | (rw [hy242]; with_reducible exact H) | (have H2_ := (Option.bind_some _ _).symm.trans H; rw [hy242]; with_reducible exact H2_) | (have H2_ := (Option.bind_some _ _).symm.trans H; with_reducible exact H2_) | with_reducible exact H | (rw [hy242]; exact H) | exact H
 have Ny242 := Aside0.mk hy242
 clear hy242
 obtain ⟨y245, hy245⟩ : ∃ y_ : List ByteArray, y_ = (([(⟨#[101, 117]⟩ : ByteArray)] : List ByteArray)) := ⟨_, rfl⟩
 replace H : ((traits_Holds.f k y242 y245 ([] : List ByteArray) 0 0 1).bind fun bt248 => ((traits_Holds.f k y242 (([(⟨#[101, 117]⟩ : ByteArray)] : List ByteArray)) (([(⟨#[102, 111, 111, 100]⟩ : ByteArray)] : List ByteArray)) 0 0 1).bind fun bt256 => (if bt248.1 = true then (if bt256.1 = true then (some false) else (if bt248.2 = 0 then (if bt256.2 = 0 then ((traits_Covers.f k (⟨#[102, 111, 111, 100]⟩ : ByteArray) (⟨#[102, 111, 111, 100, 46, 98, 114, 101, 97, 100]⟩ : ByteArray)).bind fun t258 => (some t258)) else (some false)) else (some false))) else (some false)))) = some true := by first | (rw [hy245]; with_reducible exact H) | (have H2_ := (Option.bind_some _ _).symm.trans H; rw [hy245]; with_reducible exact H2_) | (have H2_ := (Option.bind_some _ _).symm.trans H; with_reducible exact H2_) | with_reducible exact H | (rw [hy245]; exact H) | exact H
 have Ny245 := Aside0.mk hy245
 clear hy245
 replace H := Option.bind_eq_some_iff.mp H
 obtain ⟨⟨t248, t249⟩, A10, H⟩ := H
 replace H : ((traits_Holds.f k y242 (([(⟨#[101, 117]⟩ : ByteArray)] : List ByteArray)) (([(⟨#[102, 111, 111, 100]⟩ : ByteArray)] : List ByteArray)) 0 0 1).bind fun bt256 => (if t248 = true then (if bt256.1 = true then (some false) else (if t249 = 0 then (if bt256.2 = 0 then ((traits_Covers.f k (⟨#[102, 111, 111, 100]⟩ : ByteArray) (⟨#[102, 111, 111, 100, 46, 98, 114, 101, 97, 100]⟩ : ByteArray)).bind fun t258 => (some t258)) else (some false)) else (some false))) else (some false))) = some true := H
 have A1 := Aside0.mk A10
 clear A10
 obtain ⟨y250, hy250⟩ : ∃ y_ : List ByteArray, y_ = (([(⟨#[101, 117]⟩ : ByteArray)] : List ByteArray)) := ⟨_, rfl⟩
 replace H : ((traits_Holds.f k y242 y250 (([(⟨#[102, 111, 111, 100]⟩ : ByteArray)] : List ByteArray)) 0 0 1).bind fun bt256 => (if t248 = true then (if bt256.1 = true then (some false) else (if t249 = 0 then (if bt256.2 = 0 then ((traits_Covers.f k (⟨#[102, 111, 111, 100]⟩ : ByteArray) (⟨#[102, 111, 111, 100, 46, 98, 114, 101, 97, 100]⟩ : ByteArray)).bind fun t258 => (some t258)) else (some false)) else (some false))) else (some false))) = some true := by first | (rw [hy250]; with_reducible exact H) | (have H2_ := (Option.bind_some _ _).symm.trans H; rw [hy250]; with_reducible exact H2_) | (have H2_ := (Option.bind_some _ _).symm.trans H; with_reducible exact H2_) | with_reducible exact H | (rw [hy250]; exact H) | exact H
 have Ny250 := Aside0.mk hy250
 clear hy250
 obtain ⟨y253, hy253⟩ : ∃ y_ : List ByteArray, y_ = (([(⟨#[102, 111, 111, 100]⟩ : ByteArray)] : List ByteArray)) := ⟨_, rfl⟩
 replace H : ((traits_Holds.f k y242 y250 y253 0 0 1).bind fun bt256 => (if t248 = true then (if bt256.1 = true then (some false) else (if t249 = 0 then (if bt256.2 = 0 then ((traits_Covers.f k (⟨#[102, 111, 111, 100]⟩ : ByteArray) (⟨#[102, 111, 111, 100, 46, 98, 114, 101, 97, 100]⟩ : ByteArray)).bind fun t258 => (some t258)) else (some false)) else (some false))) else (some false))) = some true := by first | (rw [hy253]; with_reducible exact H) | (have H2_ := (Option.bind_some _ _).symm.trans H; rw [hy253]; with_reducible exact H2_) | (have H2_ := (Option.bind_some _ _).symm.trans H; with_reducible exact H2_) | with_reducible exact H | (rw [hy253]; exact H) | exact H
 have Ny253 := Aside0.mk hy253
 clear hy253
 replace H := Option.bind_eq_some_iff.mp H
 obtain ⟨⟨t256, t257⟩, A20, H⟩ := H
 replace H : (if t248 = true then (if t256 = true then (some false) else (if t249 = 0 then (if t257 = 0 then ((traits_Covers.f k (⟨#[102, 111, 111, 100]⟩ : ByteArray) (⟨#[102, 111, 111, 100, 46, 98, 114, 101, 97, 100]⟩ : ByteArray)).bind fun t258 => (some t258)) else (some false)) else (some false))) else (some false)) = some true := H
 have A2 := Aside0.mk A20
 clear A20
 by_cases c3 : t248 = true
 ·subst c3
  have H1 : (if t256 = true then (some false) else (if t249 = 0 then (if t257 = 0 then ((traits_Covers.f k (⟨#[102, 111, 111, 100]⟩ : ByteArray) (⟨#[102, 111, 111, 100, 46, 98, 114, 101, 97, 100]⟩ : ByteArray)).bind fun t258 => (some t258)) else (some false)) else (some false))) = some true := by rw [if_pos rfl] at H; exact H
  clear H
  have H := H1
  clear H1
  by_cases c4 : t256 = true
  ·subst c4
   have H1 : (some false) = some true := by rw [if_pos rfl] at H; exact H
   exact absurd (Option.some.inj H1) (by decide)
  ·replace c4 := Bool.eq_false_iff.mpr c4
   subst c4
   have H1 : (if t249 = 0 then (if t257 = 0 then ((traits_Covers.f k (⟨#[102, 111, 111, 100]⟩ : ByteArray) (⟨#[102, 111, 111, 100, 46, 98, 114, 101, 97, 100]⟩ : ByteArray)).bind fun t258 => (some t258)) else (some false)) else (some false)) = some true := by rw [if_neg (show ¬ (false = true) by decide)] at H; exact H
   clear H
   have H := H1
   clear H1
   by_cases c19 : t249 = 0
   ·rw [if_pos c19] at H
    have c19b0 : (t249 == 0) = true := beq_iff_eq.mpr c19
    have c19b1 : (t249 != 0) = false := bne_eq_false_iff_eq.mpr c19
    clear c19
    by_cases c20 : t257 = 0
    ·rw [if_pos c20] at H
     have c20b0 : (t257 == 0) = true := beq_iff_eq.mpr c20
     have c20b1 : (t257 != 0) = false := bne_eq_false_iff_eq.mpr c20
     clear c20
     replace H := Option.bind_eq_some_iff.mp H
     obtain ⟨t258, A210, H⟩ := H
     replace H : (some t258) = some true := H
     have A21 := Aside0.mk A210
     clear A210
     have hr_ := Option.some.inj H
     go_enter Tryz.func11, Tryz.ntmps11
     go_wp2_with (first | ((with_reducible refine gate_dst (N := 10) rfl ?_); refine Kd.R_lit k44 _ 44 ?hg (N := 10) ?hd (xs := ([(⟨2, 2, (⟨#[]⟩ : ByteArray), 0, (⟨0, 0⟩ : S42)⟩ : S44), (⟨4, 0, (⟨#[101, 117]⟩ : ByteArray), 0, (⟨0, 0⟩ : S42)⟩ : S44), (⟨3, 1, (⟨#[]⟩ : ByteArray), 0, (⟨0, 0⟩ : S42)⟩ : S44), (⟨5, 0, (⟨#[102, 111, 111, 100]⟩ : ByteArray), 0, (⟨0, 0⟩ : S42)⟩ : S44)] : List (S44))) (inner := [.int .i64 2, .int .i64 2, .string (⟨#[]⟩ : ByteArray), .int .i64 0, .int .i64 0, .int .i64 0, .int .i64 4, .int .i64 0, .string (⟨#[101, 117]⟩ : ByteArray), .int .i64 0, .int .i64 0, .int .i64 0, .int .i64 3, .int .i64 1, .string (⟨#[]⟩ : ByteArray), .int .i64 0, .int .i64 0, .int .i64 0, .int .i64 5, .int .i64 0, .string (⟨#[102, 111, 111, 100]⟩ : ByteArray), .int .i64 0, .int .i64 0, .int .i64 0]) (ok := fun _ => True) (okp := fun _ => True) ?hr ?hp (fun _ hk => hk) trivial (Below.refl _ _) (Nat.le_refl _) (by simp) ?_; (case hd => rfl); (case hg => rfl); (case hr => first | (go_simp; done) | (go_simp; rfl)); (case hp => exact (Reps.c6 (show Kd.M k44 _ _ _ (⟨2, 2, (⟨#[]⟩ : ByteArray), 0, (⟨0, 0⟩ : S42)⟩ : S44) [.int .i64 2, .int .i64 2, .string (⟨#[]⟩ : ByteArray), .int .i64 0, .int .i64 0, .int .i64 0] from (k44_mkM _ _ _ (⟨2, 2, (⟨#[]⟩ : ByteArray), 0, (⟨0, 0⟩ : S42)⟩ : S44) )) (Reps.c6 (show Kd.M k44 _ _ _ (⟨4, 0, (⟨#[101, 117]⟩ : ByteArray), 0, (⟨0, 0⟩ : S42)⟩ : S44) [.int .i64 4, .int .i64 0, .string (⟨#[101, 117]⟩ : ByteArray), .int .i64 0, .int .i64 0, .int .i64 0] from (k44_mkM _ _ _ (⟨4, 0, (⟨#[101, 117]⟩ : ByteArray), 0, (⟨0, 0⟩ : S42)⟩ : S44) )) (Reps.c6 (show Kd.M k44 _ _ _ (⟨3, 1, (⟨#[]⟩ : ByteArray), 0, (⟨0, 0⟩ : S42)⟩ : S44) [.int .i64 3, .int .i64 1, .string (⟨#[]⟩ : ByteArray), .int .i64 0, .int .i64 0, .int .i64 0] from (k44_mkM _ _ _ (⟨3, 1, (⟨#[]⟩ : ByteArray), 0, (⟨0, 0⟩ : S42)⟩ : S44) )) (Reps.c6 (show Kd.M k44 _ _ _ (⟨5, 0, (⟨#[102, 111, 111, 100]⟩ : ByteArray), 0, (⟨0, 0⟩ : S42)⟩ : S44) [.int .i64 5, .int .i64 0, .string (⟨#[102, 111, 111, 100]⟩ : ByteArray), .int .i64 0, .int .i64 0, .int .i64 0] from (k44_mkM _ _ _ (⟨5, 0, (⟨#[102, 111, 111, 100]⟩ : ByteArray), 0, (⟨0, 0⟩ : S42)⟩ : S44) )) (Reps.none _ _)))))); intro v243 w22 ho23 hb hg_ hnew_; clear hg_ hnew_; (first | rw [← Ny242.out] at ho23 | (simp only [Int.reduceToNat] at ho23; rw [← Ny242.out] at ho23)); have n0_ := Aside0.mk (Kd.R_lower ho23 (below_size (hb0_ HB.out))); have n1_ := Aside0.mk (below_step (hb0_ HB.out) hb); clear HB; have HO244 := n0_; have HB := n1_; clear n0_ n1_; clear hb ho23) | ((with_reducible refine gate_dst (N := 13) rfl ?_); refine Kd.R_lit Kd.string _ 9 ?hg (N := 13) ?hd (xs := ([(⟨#[101, 117]⟩ : ByteArray)] : List ByteArray)) (inner := [.string (⟨#[101, 117]⟩ : ByteArray)]) (ok := fun _ => True) (okp := fun _ => True) ?hr ?hp (fun _ hk => hk) trivial (Below.refl _ _) (Nat.le_refl _) (by simp) ?_; (case hd => rfl); (case hg => rfl); (case hr => first | (go_simp; done) | (go_simp; rfl)); (case hp => exact (Reps.one (show Kd.M Kd.string _ _ _ (⟨#[101, 117]⟩ : ByteArray) [.string (⟨#[101, 117]⟩ : ByteArray)] from rfl) (Reps.none _ _))); intro v246 w24 ho25 hb hg_ hnew_; clear hg_ hnew_; (first | rw [← Ny245.out] at ho25 | (simp only [Int.reduceToNat] at ho25; rw [← Ny245.out] at ho25)); have n0_ := Aside0.mk (Kd.R_below (by (with_reducible repeat (first | apply Kd.R_alloc | apply Kd.R_drewN | apply Kd.R_drew)); exact HO244.out) hb); have n1_ := Aside0.mk (Kd.R_lower ho25 (below_size (hb0_ HB.out))); have n2_ := Aside0.mk (below_step (hb0_ HB.out) hb); clear HO244; clear HB; have HO244 := n0_; have HO247 := n1_; have HB := n2_; clear n0_ n1_ n2_; clear hb ho25; obtain ⟨Ao26, co26, eo26⟩ := Kd.R_slice HO247.out; subst eo26; obtain ⟨Ao27, co27, eo27⟩ := Kd.R_slice HO244.out; subst eo27) | ((with_reducible refine gate_callee (f := 7) rfl ?_); refine goesL_ (some 15) rfl rfl Tryz.func7 (by kernel_rfl) rfl #[.slice Ao27 y242.length co27, .agg #[.slice Ao26 y245.length co26, .slice none 0 0, .int .i64 0, .int .i64 0, .int .i64 1]] rfl (by (try simp only [List.map_toArray, List.map_cons, List.map_nil]); first | done | rfl | (simp only [List.length_drop, List.length_take]; rfl)) ?_; (refine (traits_Holds.calls k _ _ y242 _ _ y245 _ _ ([] : List ByteArray) 0 0 1 true t249 _ ?side1 ?side2 ?side3 ?side4 ?side5 ?side6 A1.out (hG.at (hb0_ HB.out))).mono ?_); (case side1 => repeat (first | exact (Kd.R_reads' HO244.out).2.2 | (with_reducible refine Kd.C_alloc ?_ _) | (with_reducible refine Kd.C_drewN ?_ _) | (with_reducible refine Kd.C_drew ?_))); (case side2 => exact (Kd.R_reads' HO244.out).2.1); (case side3 => repeat (first | exact (Kd.R_reads' HO247.out).2.2 | (with_reducible refine Kd.C_alloc ?_ _) | (with_reducible refine Kd.C_drewN ?_ _) | (with_reducible refine Kd.C_drew ?_))); (case side4 => exact (Kd.R_reads' HO247.out).2.1); (case side5 => exact Kd.C_nil _ _); (case side6 => exact Nat.le_refl _); rintro e w28 ⟨rfl, hb⟩; refine ⟨_, rfl, ?_⟩; have n0_ := Aside0.mk (Kd.R_below (by (with_reducible repeat (first | apply Kd.R_alloc | apply Kd.R_drewN | apply Kd.R_drew)); exact HO244.out) hb); have n1_ := Aside0.mk (Kd.R_below (by (with_reducible repeat (first | apply Kd.R_alloc | apply Kd.R_drewN | apply Kd.R_drew)); exact HO247.out) hb); have n2_ := Aside0.mk (below_step (hb0_ HB.out) hb); clear HO244; clear HO247; clear HB; have HO244 := n0_; have HO247 := n1_; have HB := n2_; clear n0_ n1_ n2_; (try clear hb); (try clear hb2); (try clear hk); (try clear hi)) | ((with_reducible refine gate_dst (N := 20) rfl ?_); refine Kd.R_lit Kd.string _ 9 ?hg (N := 20) ?hd (xs := ([(⟨#[101, 117]⟩ : ByteArray)] : List ByteArray)) (inner := [.string (⟨#[101, 117]⟩ : ByteArray)]) (ok := fun _ => True) (okp := fun _ => True) ?hr ?hp (fun _ hk => hk) trivial (Below.refl _ _) (Nat.le_refl _) (by simp) ?_; (case hd => rfl); (case hg => rfl); (case hr => first | (go_simp; done) | (go_simp; rfl)); (case hp => exact (Reps.one (show Kd.M Kd.string _ _ _ (⟨#[101, 117]⟩ : ByteArray) [.string (⟨#[101, 117]⟩ : ByteArray)] from rfl) (Reps.none _ _))); intro v251 w29 ho30 hb hg_ hnew_; clear hg_ hnew_; (first | rw [← Ny250.out] at ho30 | (simp only [Int.reduceToNat] at ho30; rw [← Ny250.out] at ho30)); have n0_ := Aside0.mk (Kd.R_below (by (with_reducible repeat (first | apply Kd.R_alloc | apply Kd.R_drewN | apply Kd.R_drew)); exact HO244.out) hb); have n1_ := Aside0.mk (Kd.R_elder' (by (with_reducible repeat (first | apply Kd.R_alloc | apply Kd.R_drewN | apply Kd.R_drew)); exact HO247.out) (Kd.R_base ho30) hb); have n2_ := Aside0.mk (Kd.R_lower (Kd.R_new' ho30 (Kd.R_lt (by (with_reducible repeat (first | apply Kd.R_alloc | apply Kd.R_drewN | apply Kd.R_drew)); exact HO247.out))) (below_size (hb0_ HB.out))); have n3_ := Aside0.mk (below_step (hb0_ HB.out) hb); clear HO244; clear HO247; clear HB; have HO244 := n0_; have HO247 := n1_; have HO252 := n2_; have HB := n3_; clear n0_ n1_ n2_ n3_; clear hb ho30) | ((with_reducible refine gate_dst (N := 21) rfl ?_); refine Kd.R_lit Kd.string _ 9 ?hg (N := 21) ?hd (xs := ([(⟨#[102, 111, 111, 100]⟩ : ByteArray)] : List ByteArray)) (inner := [.string (⟨#[102, 111, 111, 100]⟩ : ByteArray)]) (ok := fun _ => True) (okp := fun _ => True) ?hr ?hp (fun _ hk => hk) trivial (Below.refl _ _) (Nat.le_refl _) (by simp) ?_; (case hd => rfl); (case hg => rfl); (case hr => first | (go_simp; done) | (go_simp; rfl)); (case hp => exact (Reps.one (show Kd.M Kd.string _ _ _ (⟨#[102, 111, 111, 100]⟩ : ByteArray) [.string (⟨#[102, 111, 111, 100]⟩ : ByteArray)] from rfl) (Reps.none _ _))); intro v254 w31 ho32 hb hg_ hnew_; clear hg_ hnew_; (first | rw [← Ny253.out] at ho32 | (simp only [Int.reduceToNat] at ho32; rw [← Ny253.out] at ho32)); have n0_ := Aside0.mk (Kd.R_below (by (with_reducible repeat (first | apply Kd.R_alloc | apply Kd.R_drewN | apply Kd.R_drew)); exact HO244.out) hb); have n1_ := Aside0.mk (Kd.R_elder' (by (with_reducible repeat (first | apply Kd.R_alloc | apply Kd.R_drewN | apply Kd.R_drew)); exact HO247.out) (Kd.R_base ho32) hb); have n2_ := Aside0.mk (Kd.R_elder' (by (with_reducible repeat (first | apply Kd.R_alloc | apply Kd.R_drewN | apply Kd.R_drew)); exact HO252.out) (Kd.R_base ho32) hb); have n3_ := Aside0.mk (Kd.R_lower (Kd.R_new' (Kd.R_new' ho32 (Kd.R_lt (by (with_reducible repeat (first | apply Kd.R_alloc | apply Kd.R_drewN | apply Kd.R_drew)); exact HO247.out))) (Kd.R_lt (by (with_reducible repeat (first | apply Kd.R_alloc | apply Kd.R_drewN | apply Kd.R_drew)); exact HO252.out))) (below_size (hb0_ HB.out))); have n4_ := Aside0.mk (below_step (hb0_ HB.out) hb); clear HO244; clear HO247; clear HO252; clear HB; have HO244 := n0_; have HO247 := n1_; have HO252 := n2_; have HO255 := n3_; have HB := n4_; clear n0_ n1_ n2_ n3_ n4_; clear hb ho32; obtain ⟨Ao33, co33, eo33⟩ := Kd.R_slice HO255.out; subst eo33; obtain ⟨Ao34, co34, eo34⟩ := Kd.R_slice HO252.out; subst eo34) | ((with_reducible refine gate_callee (f := 7) rfl ?_); refine goesL_ (some 23) rfl rfl Tryz.func7 (by kernel_rfl) rfl #[.slice Ao27 y242.length co27, .agg #[.slice Ao34 y250.length co34, .slice Ao33 y253.length co33, .int .i64 0, .int .i64 0, .int .i64 1]] rfl (by (try simp only [List.map_toArray, List.map_cons, List.map_nil]); first | done | rfl | (simp only [List.length_drop, List.length_take]; rfl)) ?_; (with_reducible refine (traits_Holds.calls k _ _ y242 _ _ y250 _ _ y253 0 0 1 false t257 _ ?side1 ?side2 ?side3 ?side4 ?side5 ?side6 A2.out (hG.at (hb0_ HB.out))).mono ?_); (case side1 => repeat (first | exact (Kd.R_reads' HO244.out).2.2 | (with_reducible refine Kd.C_alloc ?_ _) | (with_reducible refine Kd.C_drewN ?_ _) | (with_reducible refine Kd.C_drew ?_))); (case side2 => exact (Kd.R_reads' HO244.out).2.1); (case side3 => repeat (first | exact (Kd.R_reads' HO252.out).2.2 | (with_reducible refine Kd.C_alloc ?_ _) | (with_reducible refine Kd.C_drewN ?_ _) | (with_reducible refine Kd.C_drew ?_))); (case side4 => exact (Kd.R_reads' HO252.out).2.1); (case side5 => repeat (first | exact (Kd.R_reads' HO255.out).2.2 | (with_reducible refine Kd.C_alloc ?_ _) | (with_reducible refine Kd.C_drewN ?_ _) | (with_reducible refine Kd.C_drew ?_))); (case side6 => exact (Kd.R_reads' HO255.out).2.1); rintro e w35 ⟨rfl, hb⟩; refine ⟨_, rfl, ?_⟩; have n0_ := Aside0.mk (Kd.R_below (by (with_reducible repeat (first | apply Kd.R_alloc | apply Kd.R_drewN | apply Kd.R_drew)); exact HO244.out) hb); have n1_ := Aside0.mk (Kd.R_below (by (with_reducible repeat (first | apply Kd.R_alloc | apply Kd.R_drewN | apply Kd.R_drew)); exact HO247.out) hb); have n2_ := Aside0.mk (Kd.R_below (by (with_reducible repeat (first | apply Kd.R_alloc | apply Kd.R_drewN | apply Kd.R_drew)); exact HO252.out) hb); have n3_ := Aside0.mk (Kd.R_below (by (with_reducible repeat (first | apply Kd.R_alloc | apply Kd.R_drewN | apply Kd.R_drew)); exact HO255.out) hb); have n4_ := Aside0.mk (below_step (hb0_ HB.out) hb); clear HO244; clear HO247; clear HO252; clear HO255; clear HB; have HO244 := n0_; have HO247 := n1_; have HO252 := n2_; have HO255 := n3_; have HB := n4_; clear n0_ n1_ n2_ n3_ n4_; (try clear hb); (try clear hb2); (try clear hk); (try clear hi)) | (go_at_call 26; (with_reducible refine (traits_Covers.calls k (⟨#[102, 111, 111, 100]⟩ : ByteArray) (⟨#[102, 111, 111, 100, 46, 98, 114, 101, 97, 100]⟩ : ByteArray) t258 _ A21.out (hG.at (hb0_ HB.out))).mono ?_); rintro e w36 ⟨rfl, hb⟩; have n0_ := Aside0.mk (Kd.R_below (by (with_reducible repeat (first | apply Kd.R_alloc | apply Kd.R_drewN | apply Kd.R_drew)); exact HO244.out) hb); have n1_ := Aside0.mk (Kd.R_below (by (with_reducible repeat (first | apply Kd.R_alloc | apply Kd.R_drewN | apply Kd.R_drew)); exact HO247.out) hb); have n2_ := Aside0.mk (Kd.R_below (by (with_reducible repeat (first | apply Kd.R_alloc | apply Kd.R_drewN | apply Kd.R_drew)); exact HO252.out) hb); have n3_ := Aside0.mk (Kd.R_below (by (with_reducible repeat (first | apply Kd.R_alloc | apply Kd.R_drewN | apply Kd.R_drew)); exact HO255.out) hb); have n4_ := Aside0.mk (below_step (hb0_ HB.out) hb); clear HO244; clear HO247; clear HO252; clear HO255; clear HB; have HO244 := n0_; have HO247 := n1_; have HO252 := n2_; have HO255 := n3_; have HB := n4_; clear n0_ n1_ n2_ n3_ n4_; (try clear hb); (try clear hb2); (try clear hk); (try clear hi)))
     go_ret
     exact ⟨rf_, (hb0_ HB.out)⟩
    ·rw [if_neg c20] at H
     exact absurd (Option.some.inj H) (by decide)
   ·rw [if_neg c19] at H
    exact absurd (Option.some.inj H) (by decide)
 ·replace c3 := Bool.eq_false_iff.mpr c3
  subst c3
  have H1 : (some false) = some true := by rw [if_neg (show ¬ (false = true) by decide)] at H; exact H
  exact absurd (Option.some.inj H1) (by decide)
end Go.Proofs.YtlboolhjfffppaaGreatDoor.PBLI
