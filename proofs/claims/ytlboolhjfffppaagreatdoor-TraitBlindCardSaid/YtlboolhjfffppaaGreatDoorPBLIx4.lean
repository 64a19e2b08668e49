-- Written by this session's program (wip/tools/pr.py over the kit's print).
import Derived.Test.YtlboolhjfffppaaGreatDoorPh
import Derived.Test.YtlboolhjfffppaaGreatDoorPBLIx0
import Derived.Test.YtlboolhjfffppaaGreatDoorPBLIx1
import Derived.Test.YtlboolhjfffppaaGreatDoorPBLIx2
import Derived.Test.YtlboolhjfffppaaGreatDoorPBLIx3
namespace Go.Proofs.YtlboolhjfffppaaGreatDoor.PBLI
open Go.RowKit Go.Proofs.YtlboolhjfffppaaGreatDoorW.PrintWords Go.Proofs.YtlboolhjfffppaaGreatDoorW.PrintLast Go.Proofs.YtlboolhjfffppaaGreatDoorW.PrintMore
attribute [local go_sem] max2_int min2_int max_two min_two max_three min_three max_four min_four
set_option linter.unusedVariables false
set_option linter.unusedSimpArgs false
attribute [local go_sem high] eqA42
mutual
def traits_formed.j0 : Nat → Bool → Int → Int → ByteArray → Int → Int → Int → Option (Bool)
 | 0, _, _, _, _, _, _, _ => none
 | k + 1, x3, x115000, x115001, x115002, x115003, x115004, x115005 => if x115000 = 1 then (traits_formed.j1 k x3 x115000 (x115000 == 1) x115000 x115001 x115002 x115003 x115004 x115005) else (traits_formed.j1 k x3 x115000 (x115000 == 2) x115000 x115001 x115002 x115003 x115004 x115005)
def traits_formed.j1 : Nat → Bool → Int → Bool → Int → Int → ByteArray → Int → Int → Int → Option (Bool)
 | 0, _, _, _, _, _, _, _, _, _ => none
 | k + 1, x3, x19, x20, x115000, x115001, x115002, x115003, x115004, x115005 => if x20 = true then (if x3 = true then (some (decide (x115001 ≥ 2))) else (some false)) else (if x19 = 3 then (if x3 = true then (some (x115001 == 1)) else (some false)) else (if x19 = 4 then (traits_formed.j2 k x19 (x19 == 4) x115000 x115001 x115002 x115003 x115004 x115005) else (traits_formed.j2 k x19 (x19 == 5) x115000 x115001 x115002 x115003 x115004 x115005)))
def traits_formed.j2 : Nat → Int → Bool → Int → Int → ByteArray → Int → Int → Int → Option (Bool)
 | 0, _, _, _, _, _, _, _, _ => none
 | k + 1, x19, x37, x115000, x115001, x115002, x115003, x115004, x115005 => if x37 = true then (if x115001 = 0 then (if x115003 = 0 then (if (x115004 == 0 && (x115005 == 0)) = true then ((tokens_Word.f x115002).bind fun t115 => (some t115)) else (some false)) else (some false)) else (some false)) else (if x19 = 6 then (if x115001 = 0 then (if x115002.toList = ([] : List UInt8) then (if x115003 ≥ 1 then (if x115003 ≤ 4 then (if x115004 ≥ 0 then ((decimal_Check.f x115004 x115005).bind fun t116 => (some (t116 == 0))) else (some false)) else (some false)) else (some false)) else (some false)) else (some false)) else (if x19 = 7 then (if x115001 = 0 then (if x115002.toList = ([] : List UInt8) then (if x115003 ≥ 1 then (if x115003 ≤ 4 then (if x115004 ≥ 0 then ((decimal_Check.f x115004 x115005).bind fun t117 => (some (t117 == 0))) else (some false)) else (some false)) else (some false)) else (some false)) else (some false)) else (some false)))
end
def traits_formed.f (k : Nat) (a0_0 : Int) (a0_1 : Int) (a0_2 : ByteArray) (a0_3 : Int) (a0_4 : Int) (a0_5 : Int) : Option (Bool) := if a0_2.toList = ([] : List UInt8) then (if a0_3 = 0 then (traits_formed.j0 k (a0_4 == 0 && (a0_5 == 0)) a0_0 a0_1 a0_2 a0_3 a0_4 a0_5) else (traits_formed.j0 k false a0_0 a0_1 a0_2 a0_3 a0_4 a0_5)) else (traits_formed.j0 k false a0_0 a0_1 a0_2 a0_3 a0_4 a0_5)
theorem traits_formed.mono_l : ∀ k, (∀ y0 y1 y2 y3 y4 y5 y6, LeO (traits_formed.j0 k y0 y1 y2 y3 y4 y5 y6) (traits_formed.j0 (k + 1) y0 y1 y2 y3 y4 y5 y6)) ∧ (∀ y0 y1 y2 y3 y4 y5 y6 y7 y8, LeO (traits_formed.j1 k y0 y1 y2 y3 y4 y5 y6 y7 y8) (traits_formed.j1 (k + 1) y0 y1 y2 y3 y4 y5 y6 y7 y8)) ∧ (∀ y0 y1 y2 y3 y4 y5 y6 y7, LeO (traits_formed.j2 k y0 y1 y2 y3 y4 y5 y6 y7) (traits_formed.j2 (k + 1) y0 y1 y2 y3 y4 y5 y6 y7))
 | 0 => ⟨fun _ _ _ _ _ _ _ r h => by simp [traits_formed.j0] at h, fun _ _ _ _ _ _ _ _ _ r h => by simp [traits_formed.j1] at h, fun _ _ _ _ _ _ _ _ r h => by simp [traits_formed.j2] at h⟩
 | k + 1 => by
  obtain ⟨ih0, ih1, ih2⟩ := traits_formed.mono_l k
  refine ⟨?_, ?_, ?_⟩
  ·intro y0 y1 y2 y3 y4 y5 y6
   unfold traits_formed.j0
   repeat' first
   | (with_reducible exact ih0 _ _ _ _ _ _ _)
   | (with_reducible exact ih1 _ _ _ _ _ _ _ _ _)
   | (with_reducible exact ih2 _ _ _ _ _ _ _ _)
   | (with_reducible exact LeO.refl _)
   | (with_reducible exact LeO.none _)
   | (with_reducible refine LeO.ite ?_ ?_)
   | (with_reducible refine LeO.bind ?_ (fun _ => ?_))
   | exact ih0 _ _ _ _ _ _ _
   | exact ih1 _ _ _ _ _ _ _ _ _
   | exact ih2 _ _ _ _ _ _ _ _
   | exact LeO.none _
   | refine LeO.ite ?_ ?_
   | refine LeO.bind ?_ (fun _ => ?_)
  ·intro y0 y1 y2 y3 y4 y5 y6 y7 y8
   unfold traits_formed.j1
   repeat' first
   | (with_reducible exact ih0 _ _ _ _ _ _ _)
   | (with_reducible exact ih1 _ _ _ _ _ _ _ _ _)
   | (with_reducible exact ih2 _ _ _ _ _ _ _ _)
   | (with_reducible exact LeO.refl _)
   | (with_reducible exact LeO.none _)
   | (with_reducible refine LeO.ite ?_ ?_)
   | (with_reducible refine LeO.bind ?_ (fun _ => ?_))
   | exact ih0 _ _ _ _ _ _ _
   | exact ih1 _ _ _ _ _ _ _ _ _
   | exact ih2 _ _ _ _ _ _ _ _
   | exact LeO.none _
   | refine LeO.ite ?_ ?_
   | refine LeO.bind ?_ (fun _ => ?_)
  ·intro y0 y1 y2 y3 y4 y5 y6 y7
   unfold traits_formed.j2
   repeat' first
   | (with_reducible exact ih0 _ _ _ _ _ _ _)
   | (with_reducible exact ih1 _ _ _ _ _ _ _ _ _)
   | (with_reducible exact ih2 _ _ _ _ _ _ _ _)
   | (with_reducible exact LeO.refl _)
   | (with_reducible exact LeO.none _)
   | (with_reducible refine LeO.ite ?_ ?_)
   | (with_reducible refine LeO.bind ?_ (fun _ => ?_))
   | exact ih0 _ _ _ _ _ _ _
   | exact ih1 _ _ _ _ _ _ _ _ _
   | exact ih2 _ _ _ _ _ _ _ _
   | exact LeO.none _
   | refine LeO.ite ?_ ?_
   | refine LeO.bind ?_ (fun _ => ?_)
theorem traits_formed.mono : ∀ a0 a1 a2 a3 a4 a5 k, LeO (traits_formed.f k a0 a1 a2 a3 a4 a5) (traits_formed.f (k + 1) a0 a1 a2 a3 a4 a5) := by
 intro a0 a1 a2 a3 a4 a5 k
 obtain ⟨ih0, ih1, ih2⟩ := traits_formed.mono_l k
 unfold traits_formed.f
 repeat' first
   | (with_reducible exact ih0 _ _ _ _ _ _ _)
   | (with_reducible exact ih1 _ _ _ _ _ _ _ _ _)
   | (with_reducible exact ih2 _ _ _ _ _ _ _ _)
   | (with_reducible exact LeO.refl _)
   | (with_reducible exact LeO.none _)
   | (with_reducible refine LeO.ite ?_ ?_)
   | (with_reducible refine LeO.bind ?_ (fun _ => ?_))
   | exact ih0 _ _ _ _ _ _ _
   | exact ih1 _ _ _ _ _ _ _ _ _
   | exact ih2 _ _ _ _ _ _ _ _
   | exact LeO.none _
   | refine LeO.ite ?_ ?_
   | refine LeO.bind ?_ (fun _ => ?_)
set_option maxHeartbeats 8000000 in
set_option maxRecDepth 100000 in
theorem traits_formed.calls (k : Nat) (a0_0 : Int) (a0_1 : Int) (a0_2 : ByteArray) (a0_3 : Int) (a0_4 : Int) (a0_5 : Int) (r : Bool) (w : World) (h : traits_formed.f k a0_0 a0_1 a0_2 a0_3 a0_4 a0_5 = some r) (hG : GT w) :
  Calls Tryz.prog 34 #[.agg #[.int .i64 a0_0, .int .i64 a0_1, .string a0_2, .int .i64 a0_3, .int .i64 a0_4, .int .i64 a0_5]] w fun e w' => e = .returned (.bool r) ∧ Below w.heap.size w w' := by
 have hu44 := Tryz.underlying44
 have hu42 := Tryz.underlying42
 have HB := Aside0.mk (Below.refl w.heap.size w)
 have H : (if a0_2.toList = ([] : List UInt8) then (if a0_3 = 0 then (traits_formed.j0 k (a0_4 == 0 && (a0_5 == 0)) a0_0 a0_1 a0_2 a0_3 a0_4 a0_5) else (traits_formed.j0 k false a0_0 a0_1 a0_2 a0_3 a0_4 a0_5)) else (traits_formed.j0 k false a0_0 a0_1 a0_2 a0_3 a0_4 a0_5)) = some r := h
 clear h
 have HC2 := Aside0.mk H
 clear H
 go_enter Tryz.func34, Tryz.ntmps34
 go_upto_region 1 with (first | ((with_reducible refine gate_dst (N := 1) rfl ?_); refine box_event ?hg (N := 1) ?hd (cs := #[.int .i64 a0_0, .int .i64 a0_1, .string a0_2, .int .i64 a0_3, .int .i64 a0_4, .int .i64 a0_5]) (t := 44) ?hr ?_; (case hd => rfl); (case hg => rfl); (case hr => first | (go_simp; done) | (go_simp; rfl)); intro gb114 hg w3 hbox hb; have n0_ := Aside0.mk (below_step (hb0_ HB.out) hb); have n1_ := Aside0.mk (hbox); have n2_ := Aside0.mk ((by rw [hg]; exact (below_size (hb0_ HB.out)) : w.heap.size ≤ gb114)); have n3_ := Aside0.mk ((by rw [hg]; exact (below_size (hb0_ HB.out)) : w.heap.size ≤ gb114)); clear HB; have HB := n0_; have BK114 := n1_; have GW114 := n2_; have GE114 := n3_; clear n0_ n1_ n2_ n3_; clear hb hbox hg))
 (try simp only [Act.put, List.setIfInBounds_toArray, List.set_cons_zero, List.set_cons_succ])
 go_cut [3] (fun v3 wc => ∃ (kq : Nat) (x3_1 : Bool), v3 = .bool x3_1 ∧ Aside0 (traits_formed.j0 kq x3_1 a0_0 a0_1 a0_2 a0_3 a0_4 a0_5 = some r) ∧ Aside0 (kq ≤ k) ∧ Aside0 (wc.heap[gb114]? = some (.cells #[.int .i64 a0_0, .int .i64 a0_1, .string a0_2, .int .i64 a0_3, .int .i64 a0_4, .int .i64 a0_5] 44 (0, 0))) ∧ Aside0 (Below w.heap.size w wc))
 case first =>
  have H := HC2.out
  clear HC2
  by_cases c4 : a0_2.toList = ([] : List UInt8)
  ·rw [if_pos c4] at H
   have c4b0 : (a0_2.toList == ([] : List UInt8)) = true := beq_iff_eq.mpr c4
   have c4b1 : (a0_2.toList != ([] : List UInt8)) = false := bne_eq_false_iff_eq.mpr c4
   clear c4
   (first | rw [c4b0] | (simp only [i64_w, i32_w]; rw [c4b0]) | skip)
   by_cases c5 : a0_3 = 0
   ·rw [if_pos c5] at H
    have c5b0 : (a0_3 == 0) = true := beq_iff_eq.mpr c5
    have c5b1 : (a0_3 != 0) = false := bne_eq_false_iff_eq.mpr c5
    clear c5
    have H' := Aside0.mk H
    clear H
    obtain ⟨hcz6_0, hcz6_1, hcz6_2, hcz6_3, hcz6_4, hcz6_5, hfz6_0, hfz6_1, hfz6_2, hfz6_3, hfz6_4, hfz6_5⟩ := bx6 BK114.out
    go_wp2
    go_meet
    case rel => exact ⟨_, ((a0_4 == 0 && (a0_5 == 0))), (by first | rfl | (simp; done) | (simp [*]; done)), H', ⟨by first | omega | exact Nat.le_refl _⟩, ⟨by (with_reducible repeat (first | refine blk_drewN ?_ _ | refine blk_drew ?_ | refine blk_alloc ?_ _)); exact BK114.out⟩, ⟨(hb1_ HB.out GE114.out)⟩⟩
   ·rw [if_neg c5] at H
    have c5b0 : (a0_3 == 0) = false := beq_eq_false_iff_ne.mpr c5
    have c5b1 : (a0_3 != 0) = true := bne_iff_ne.mpr c5
    have H' := Aside0.mk H
    clear H
    obtain ⟨hcz7_0, hcz7_1, hcz7_2, hcz7_3, hcz7_4, hcz7_5, hfz7_0, hfz7_1, hfz7_2, hfz7_3, hfz7_4, hfz7_5⟩ := bx6 BK114.out
    go_wp2
    go_meet
    case rel => exact ⟨_, (false), (by first | rfl | (simp; done) | (simp [*]; done)), H', ⟨by first | omega | exact Nat.le_refl _⟩, ⟨by (with_reducible repeat (first | refine blk_drewN ?_ _ | refine blk_drew ?_ | refine blk_alloc ?_ _)); exact BK114.out⟩, ⟨(hb1_ HB.out GE114.out)⟩⟩
  ·rw [if_neg c4] at H
   have c4b0 : (a0_2.toList == ([] : List UInt8)) = false := beq_eq_false_iff_ne.mpr c4
   have c4b1 : (a0_2.toList != ([] : List UInt8)) = true := bne_iff_ne.mpr c4
   (first | rw [c4b0] | (simp only [i64_w, i32_w]; rw [c4b0]) | skip)
   have H' := Aside0.mk H
   clear H
   obtain ⟨hcz8_0, hcz8_1, hcz8_2, hcz8_3, hcz8_4, hcz8_5, hfz8_0, hfz8_1, hfz8_2, hfz8_3, hfz8_4, hfz8_5⟩ := bx6 BK114.out
   go_wp2
   go_meet
   case rel => exact ⟨_, (false), (by first | rfl | (simp; done) | (simp [*]; done)), H', ⟨by first | omega | exact Nat.le_refl _⟩, ⟨by (with_reducible repeat (first | refine blk_drewN ?_ _ | refine blk_drew ?_ | refine blk_alloc ?_ _)); exact BK114.out⟩, ⟨(hb1_ HB.out GE114.out)⟩⟩
 case rest =>
  clear HC2
  try clear p2
  try clear c3
  try clear c4
  try clear c4b0
  try clear c4b1
  try clear c5
  try clear c5b0
  try clear c5b1
  try clear hcz6_0
  try clear hcz6_1
  try clear hcz6_2
  try clear hcz6_3
  try clear hcz6_4
  try clear hcz6_5
  try clear hcz7_0
  try clear hcz7_1
  try clear hcz7_2
  try clear hcz7_3
  try clear hcz7_4
  try clear hcz7_5
  try clear hcz8_0
  try clear hcz8_1
  try clear hcz8_2
  try clear hcz8_3
  try clear hcz8_4
  try clear hcz8_5
  try clear hfz6_0
  try clear hfz6_1
  try clear hfz6_2
  try clear hfz6_3
  try clear hfz6_4
  try clear hfz6_5
  try clear hfz7_0
  try clear hfz7_1
  try clear hfz7_2
  try clear hfz7_3
  try clear hfz7_4
  try clear hfz7_5
  try clear hfz8_0
  try clear hfz8_1
  try clear hfz8_2
  try clear hfz8_3
  try clear hfz8_4
  try clear hfz8_5
  obtain ⟨kq, x3_1, rfl, HA, HJ1, BK114, HB⟩ := hcut
  cases kq with
  | zero => exact absurd HA.out (by simp [traits_formed.j0])
  | succ kj1 =>
   have H := HA.out
   clear HA
   simp only [traits_formed.j0] at H
   have HC9 := Aside0.mk H
   clear H
   obtain ⟨hcz10_0, hcz10_1, hcz10_2, hcz10_3, hcz10_4, hcz10_5, hfz10_0, hfz10_1, hfz10_2, hfz10_3, hfz10_4, hfz10_5⟩ := bx6 BK114.out
   go_upto_if 20 with (fail)
   go_cut [20] (fun v20 wc => ∃ (kq : Nat) (x20_8 : Bool), v20 = .bool x20_8 ∧ Aside0 (traits_formed.j1 kq x3_1 a0_0 x20_8 a0_0 a0_1 a0_2 a0_3 a0_4 a0_5 = some r) ∧ Aside0 (kq ≤ kj1) ∧ Aside0 (wc.heap[gb114]? = some (.cells #[.int .i64 a0_0, .int .i64 a0_1, .string a0_2, .int .i64 a0_3, .int .i64 a0_4, .int .i64 a0_5] 44 (0, 0))) ∧ Aside0 (Below w.heap.size w wc))
   case first =>
    have H := HC9.out
    clear HC9
    by_cases c11 : a0_0 = 1
    ·rw [if_pos c11] at H
     have c11b0 : (a0_0 == 1) = true := beq_iff_eq.mpr c11
     have c11b1 : (a0_0 != 1) = false := bne_eq_false_iff_eq.mpr c11
     clear c11
     (first | rw [c11b0] | (simp only [i64_w, i32_w]; rw [c11b0]) | skip)
     have H' := Aside0.mk H
     clear H
     go_wp2
     go_meet
     case rel => exact ⟨_, ((a0_0 == 1)), (by first | rfl | (simp; done) | (simp [*]; done)), H', ⟨by have := HJ1.out; first | omega | exact Nat.le_refl _⟩, ⟨by (with_reducible repeat (first | refine blk_drewN ?_ _ | refine blk_drew ?_ | refine blk_alloc ?_ _)); exact BK114.out⟩, ⟨(hb1_ HB.out GE114.out)⟩⟩
    ·rw [if_neg c11] at H
     have c11b0 : (a0_0 == 1) = false := beq_eq_false_iff_ne.mpr c11
     have c11b1 : (a0_0 != 1) = true := bne_iff_ne.mpr c11
     (first | rw [c11b0] | (simp only [i64_w, i32_w]; rw [c11b0]) | skip)
     have H' := Aside0.mk H
     clear H
     go_wp2
     go_meet
     case rel => exact ⟨_, ((a0_0 == 2)), (by first | rfl | (simp; done) | (simp [*]; done)), H', ⟨by have := HJ1.out; first | omega | exact Nat.le_refl _⟩, ⟨by (with_reducible repeat (first | refine blk_drewN ?_ _ | refine blk_drew ?_ | refine blk_alloc ?_ _)); exact BK114.out⟩, ⟨(hb1_ HB.out GE114.out)⟩⟩
   case rest =>
    clear HC9
    try clear c1
    try clear p2
    try clear c3
    try clear c4
    try clear c4b0
    try clear c4b1
    try clear c5
    try clear c5b0
    try clear c5b1
    try clear c11
    try clear c11b0
    try clear c11b1
    try clear hcz10_0
    try clear hcz10_1
    try clear hcz10_2
    try clear hcz10_3
    try clear hcz10_4
    try clear hcz10_5
    try clear hcz6_0
    try clear hcz6_1
    try clear hcz6_2
    try clear hcz6_3
    try clear hcz6_4
    try clear hcz6_5
    try clear hcz7_0
    try clear hcz7_1
    try clear hcz7_2
    try clear hcz7_3
    try clear hcz7_4
    try clear hcz7_5
    try clear hcz8_0
    try clear hcz8_1
    try clear hcz8_2
    try clear hcz8_3
    try clear hcz8_4
    try clear hcz8_5
    try clear hfz10_0
    try clear hfz10_1
    try clear hfz10_2
    try clear hfz10_3
    try clear hfz10_4
    try clear hfz10_5
    try clear hfz6_0
    try clear hfz6_1
    try clear hfz6_2
    try clear hfz6_3
    try clear hfz6_4
    try clear hfz6_5
    try clear hfz7_0
    try clear hfz7_1
    try clear hfz7_2
    try clear hfz7_3
    try clear hfz7_4
    try clear hfz7_5
    try clear hfz8_0
    try clear hfz8_1
    try clear hfz8_2
    try clear hfz8_3
    try clear hfz8_4
    try clear hfz8_5
    try clear p2
    obtain ⟨kq, x20_8, rfl, HA, HJ8, BK114, HB⟩ := hcut
    cases kq with
    | zero => exact absurd HA.out (by simp [traits_formed.j1])
    | succ kj8 =>
     have H := HA.out
     clear HA
     simp only [traits_formed.j1] at H
     by_cases c12 : x20_8 = true
     ·subst c12
      have H1 : (if x3_1 = true then (some (decide (a0_1 ≥ 2))) else (some false)) = some r := by rw [if_pos rfl] at H; exact H
      clear H
      have H := H1
      clear H1
      by_cases c13 : x3_1 = true
      ·subst c13
       have H1 : (some (decide (a0_1 ≥ 2))) = some r := by rw [if_pos rfl] at H; exact H
       clear H
       have H := H1
       clear H1
       obtain rfl := Option.some.inj H
       obtain ⟨hcz14_0, hcz14_1, hcz14_2, hcz14_3, hcz14_4, hcz14_5, hfz14_0, hfz14_1, hfz14_2, hfz14_3, hfz14_4, hfz14_5⟩ := bx6 BK114.out
       go_wp2
       go_ret
       exact ⟨rf_, (hb1_ HB.out GE114.out)⟩
      ·replace c13 := Bool.eq_false_iff.mpr c13
       subst c13
       have H1 : (some false) = some r := by rw [if_neg (show ¬ (false = true) by decide)] at H; exact H
       clear H
       have H := H1
       clear H1
       obtain rfl := Option.some.inj H
       go_wp2
       go_ret
       exact ⟨rf_, (hb1_ HB.out GE114.out)⟩
     ·replace c12 := Bool.eq_false_iff.mpr c12
      subst c12
      have H1 : (if a0_0 = 3 then (if x3_1 = true then (some (a0_1 == 1)) else (some false)) else (if a0_0 = 4 then (traits_formed.j2 kj8 a0_0 (a0_0 == 4) a0_0 a0_1 a0_2 a0_3 a0_4 a0_5) else (traits_formed.j2 kj8 a0_0 (a0_0 == 5) a0_0 a0_1 a0_2 a0_3 a0_4 a0_5))) = some r := by rw [if_neg (show ¬ (false = true) by decide)] at H; exact H
      clear H
      have H := H1
      clear H1
      by_cases c15 : a0_0 = 3
      ·rw [if_pos c15] at H
       have c15b0 : (a0_0 == 3) = true := beq_iff_eq.mpr c15
       have c15b1 : (a0_0 != 3) = false := bne_eq_false_iff_eq.mpr c15
       clear c15
       by_cases c16 : x3_1 = true
       ·subst c16
        have H1 : (some (a0_1 == 1)) = some r := by rw [if_pos rfl] at H; exact H
        clear H
        have H := H1
        clear H1
        obtain rfl := Option.some.inj H
        obtain ⟨hcz17_0, hcz17_1, hcz17_2, hcz17_3, hcz17_4, hcz17_5, hfz17_0, hfz17_1, hfz17_2, hfz17_3, hfz17_4, hfz17_5⟩ := bx6 BK114.out
        go_wp2
        go_ret
        exact ⟨rf_, (hb1_ HB.out GE114.out)⟩
       ·replace c16 := Bool.eq_false_iff.mpr c16
        subst c16
        have H1 : (some false) = some r := by rw [if_neg (show ¬ (false = true) by decide)] at H; exact H
        clear H
        have H := H1
        clear H1
        obtain rfl := Option.some.inj H
        go_wp2
        go_ret
        exact ⟨rf_, (hb1_ HB.out GE114.out)⟩
      ·rw [if_neg c15] at H
       have c15b0 : (a0_0 == 3) = false := beq_eq_false_iff_ne.mpr c15
       have c15b1 : (a0_0 != 3) = true := bne_iff_ne.mpr c15
       have HC18 := Aside0.mk H
       clear H
       go_upto_if 37 with (fail)
       go_cut [37] (fun v37 wc => ∃ (kq : Nat) (x37_17 : Bool), v37 = .bool x37_17 ∧ Aside0 (traits_formed.j2 kq a0_0 x37_17 a0_0 a0_1 a0_2 a0_3 a0_4 a0_5 = some r) ∧ Aside0 (kq ≤ kj8) ∧ Aside0 (wc.heap[gb114]? = some (.cells #[.int .i64 a0_0, .int .i64 a0_1, .string a0_2, .int .i64 a0_3, .int .i64 a0_4, .int .i64 a0_5] 44 (0, 0))) ∧ Aside0 (Below w.heap.size w wc))
       case first =>
        have H := HC18.out
        clear HC18
        by_cases c19 : a0_0 = 4
        ·rw [if_pos c19] at H
         have c19b0 : (a0_0 == 4) = true := beq_iff_eq.mpr c19
         have c19b1 : (a0_0 != 4) = false := bne_eq_false_iff_eq.mpr c19
         clear c19
         (first | rw [c19b0] | (simp only [i64_w, i32_w]; rw [c19b0]) | skip)
         have H' := Aside0.mk H
         clear H
         go_wp2
         go_meet
         case rel => exact ⟨_, ((a0_0 == 4)), (by first | rfl | (simp; done) | (simp [*]; done)), H', ⟨by have := HJ1.out; have := HJ8.out; first | omega | exact Nat.le_refl _⟩, ⟨by (with_reducible repeat (first | refine blk_drewN ?_ _ | refine blk_drew ?_ | refine blk_alloc ?_ _)); exact BK114.out⟩, ⟨(hb1_ HB.out GE114.out)⟩⟩
        ·rw [if_neg c19] at H
         have c19b0 : (a0_0 == 4) = false := beq_eq_false_iff_ne.mpr c19
         have c19b1 : (a0_0 != 4) = true := bne_iff_ne.mpr c19
         (first | rw [c19b0] | (simp only [i64_w, i32_w]; rw [c19b0]) | skip)
         have H' := Aside0.mk H
         clear H
         go_wp2
         go_meet
         case rel => exact ⟨_, ((a0_0 == 5)), (by first | rfl | (simp; done) | (simp [*]; done)), H', ⟨by have := HJ1.out; have := HJ8.out; first | omega | exact Nat.le_refl _⟩, ⟨by (with_reducible repeat (first | refine blk_drewN ?_ _ | refine blk_drew ?_ | refine blk_alloc ?_ _)); exact BK114.out⟩, ⟨(hb1_ HB.out GE114.out)⟩⟩
       case rest =>
        clear HC18
        try clear c1
        try clear p2
        try clear c3
        try clear c4
        try clear c4b0
        try clear c4b1
        try clear c5
        try clear c5b0
        try clear c5b1
        try clear c11
        try clear c11b0
        try clear c11b1
        try clear c12
        try clear c13
        try clear c15
        try clear c15b0
        try clear c15b1
        try clear c16
        try clear c19
        try clear c19b0
        try clear c19b1
        try clear hcz10_0
        try clear hcz10_1
        try clear hcz10_2
        try clear hcz10_3
        try clear hcz10_4
        try clear hcz10_5
        try clear hcz14_0
        try clear hcz14_1
        try clear hcz14_2
        try clear hcz14_3
        try clear hcz14_4
        try clear hcz14_5
        try clear hcz17_0
        try clear hcz17_1
        try clear hcz17_2
        try clear hcz17_3
        try clear hcz17_4
        try clear hcz17_5
        try clear hcz6_0
        try clear hcz6_1
        try clear hcz6_2
        try clear hcz6_3
        try clear hcz6_4
        try clear hcz6_5
        try clear hcz7_0
        try clear hcz7_1
        try clear hcz7_2
        try clear hcz7_3
        try clear hcz7_4
        try clear hcz7_5
        try clear hcz8_0
        try clear hcz8_1
        try clear hcz8_2
        try clear hcz8_3
        try clear hcz8_4
        try clear hcz8_5
        try clear hfz10_0
        try clear hfz10_1
        try clear hfz10_2
        try clear hfz10_3
        try clear hfz10_4
        try clear hfz10_5
        try clear hfz14_0
        try clear hfz14_1
        try clear hfz14_2
        try clear hfz14_3
        try clear hfz14_4
        try clear hfz14_5
        try clear hfz17_0
        try clear hfz17_1
        try clear hfz17_2
        try clear hfz17_3
        try clear hfz17_4
        try clear hfz17_5
        try clear hfz6_0
        try clear hfz6_1
        try clear hfz6_2
        try clear hfz6_3
        try clear hfz6_4
        try clear hfz6_5
        try clear hfz7_0
        try clear hfz7_1
        try clear hfz7_2
        try clear hfz7_3
        try clear hfz7_4
        try clear hfz7_5
        try clear hfz8_0
        try clear hfz8_1
        try clear hfz8_2
        try clear hfz8_3
        try clear hfz8_4
        try clear hfz8_5
        try clear p2
        obtain ⟨kq, x37_17, rfl, HA, HJ17, BK114, HB⟩ := hcut
        cases kq with
        | zero => exact absurd HA.out (by simp [traits_formed.j2])
        | succ kj17 =>
         have H := HA.out
         clear HA
         simp only [traits_formed.j2] at H
         by_cases c20 : x37_17 = true
         ·subst c20
          have H1 : (if a0_1 = 0 then (if a0_3 = 0 then (if (a0_4 == 0 && (a0_5 == 0)) = true then ((tokens_Word.f a0_2).bind fun t115 => (some t115)) else (some false)) else (some false)) else (some false)) = some r := by rw [if_pos rfl] at H; exact H
          clear H
          have H := H1
          clear H1
          by_cases c21 : a0_1 = 0
          ·rw [if_pos c21] at H
           have c21b0 : (a0_1 == 0) = true := beq_iff_eq.mpr c21
           have c21b1 : (a0_1 != 0) = false := bne_eq_false_iff_eq.mpr c21
           clear c21
           by_cases c22 : a0_3 = 0
           ·rw [if_pos c22] at H
            have c22b0 : (a0_3 == 0) = true := beq_iff_eq.mpr c22
            have c22b1 : (a0_3 != 0) = false := bne_eq_false_iff_eq.mpr c22
            clear c22
            by_cases c23 : (a0_4 == 0 && (a0_5 == 0)) = true
            ·rw [if_pos c23] at H
             have c23b0 : (a0_4 == 0 && (a0_5 == 0)) = true := c23
             (try (have c23b1 : decide (a0_4 = 0 && (a0_5 == 0)) = true := by simpa using c23))
             (try (have c23b2 : (a0_4 == 0 && (a0_5 == 0)) = true := by simpa using c23))
             clear c23
             replace H := Option.bind_eq_some_iff.mp H
             obtain ⟨t115, A240, H⟩ := H
             replace H : (some t115) = some r := H
             have A24 := Aside0.mk A240
             clear A240
             obtain rfl := Option.some.inj H
             obtain ⟨hcz25_0, hcz25_1, hcz25_2, hcz25_3, hcz25_4, hcz25_5, hfz25_0, hfz25_1, hfz25_2, hfz25_3, hfz25_4, hfz25_5⟩ := bx6 BK114.out
             go_wp2_with (first | (go_at_call 47; (with_reducible refine (tokens_Word.calls a0_2 t115 _ A24.out (hG.at (hb0_ HB.out))).mono ?_); rintro e w26 ⟨rfl, hb⟩; have n0_ := Aside0.mk (blk_below (g := gb114) (o := .cells #[.int .i64 a0_0, .int .i64 a0_1, .string a0_2, .int .i64 a0_3, .int .i64 a0_4, .int .i64 a0_5] 44 (0, 0)) (ph_ BK114.out) hb); have n1_ := Aside0.mk (below_step (hb1_ HB.out GE114.out) hb); clear BK114; clear HB; have BK114 := n0_; have HB := n1_; clear n0_ n1_; (try clear hb); (try clear hb2); (try clear hk); (try clear hi)))
             go_ret
             exact ⟨rf_, (hb1_ HB.out GE114.out)⟩
            ·rw [if_neg c23] at H
             have c23b0 : (a0_4 == 0 && (a0_5 == 0)) = false := by simpa using c23
             (try (have c23b1 : decide (a0_4 = 0 && (a0_5 == 0)) = false := by simpa using c23))
             (try (have c23b2 : (a0_4 == 0 && (a0_5 == 0)) = false := by simpa using c23))
             (try (have c23b3 : ¬ (a0_4 = 0 && (a0_5 == 0)) := by simpa using c23))
             clear c23
             obtain rfl := Option.some.inj H
             obtain ⟨hcz27_0, hcz27_1, hcz27_2, hcz27_3, hcz27_4, hcz27_5, hfz27_0, hfz27_1, hfz27_2, hfz27_3, hfz27_4, hfz27_5⟩ := bx6 BK114.out
             go_wp2
             go_ret
             exact ⟨rf_, (hb1_ HB.out GE114.out)⟩
           ·rw [if_neg c22] at H
            have c22b0 : (a0_3 == 0) = false := beq_eq_false_iff_ne.mpr c22
            have c22b1 : (a0_3 != 0) = true := bne_iff_ne.mpr c22
            obtain rfl := Option.some.inj H
            obtain ⟨hcz28_0, hcz28_1, hcz28_2, hcz28_3, hcz28_4, hcz28_5, hfz28_0, hfz28_1, hfz28_2, hfz28_3, hfz28_4, hfz28_5⟩ := bx6 BK114.out
            go_wp2
            go_ret
            exact ⟨rf_, (hb1_ HB.out GE114.out)⟩
          ·rw [if_neg c21] at H
           have c21b0 : (a0_1 == 0) = false := beq_eq_false_iff_ne.mpr c21
           have c21b1 : (a0_1 != 0) = true := bne_iff_ne.mpr c21
           obtain rfl := Option.some.inj H
           obtain ⟨hcz29_0, hcz29_1, hcz29_2, hcz29_3, hcz29_4, hcz29_5, hfz29_0, hfz29_1, hfz29_2, hfz29_3, hfz29_4, hfz29_5⟩ := bx6 BK114.out
           go_wp2
           go_ret
           exact ⟨rf_, (hb1_ HB.out GE114.out)⟩
         ·replace c20 := Bool.eq_false_iff.mpr c20
          subst c20
          have H1 : (if a0_0 = 6 then (if a0_1 = 0 then (if a0_2.toList = ([] : List UInt8) then (if a0_3 ≥ 1 then (if a0_3 ≤ 4 then (if a0_4 ≥ 0 then ((decimal_Check.f a0_4 a0_5).bind fun t116 => (some (t116 == 0))) else (some false)) else (some false)) else (some false)) else (some false)) else (some false)) else (if a0_0 = 7 then (if a0_1 = 0 then (if a0_2.toList = ([] : List UInt8) then (if a0_3 ≥ 1 then (if a0_3 ≤ 4 then (if a0_4 ≥ 0 then ((decimal_Check.f a0_4 a0_5).bind fun t117 => (some (t117 == 0))) else (some false)) else (some false)) else (some false)) else (some false)) else (some false)) else (some false))) = some r := by rw [if_neg (show ¬ (false = true) by decide)] at H; exact H
          clear H
          have H := H1
          clear H1
          by_cases c30 : a0_0 = 6
          ·rw [if_pos c30] at H
           have c30b0 : (a0_0 == 6) = true := beq_iff_eq.mpr c30
           have c30b1 : (a0_0 != 6) = false := bne_eq_false_iff_eq.mpr c30
           clear c30
           by_cases c31 : a0_1 = 0
           ·rw [if_pos c31] at H
            have c31b0 : (a0_1 == 0) = true := beq_iff_eq.mpr c31
            have c31b1 : (a0_1 != 0) = false := bne_eq_false_iff_eq.mpr c31
            clear c31
            by_cases c32 : a0_2.toList = ([] : List UInt8)
            ·rw [if_pos c32] at H
             have c32b0 : (a0_2.toList == ([] : List UInt8)) = true := beq_iff_eq.mpr c32
             have c32b1 : (a0_2.toList != ([] : List UInt8)) = false := bne_eq_false_iff_eq.mpr c32
             clear c32
             by_cases c33 : a0_3 ≥ 1
             ·rw [if_pos c33] at H
              have c33b0 : decide (1 ≤ a0_3) = true := decide_eq_true c33
              clear c33
              by_cases c34 : a0_3 ≤ 4
              ·rw [if_pos c34] at H
               have c34b0 : decide (a0_3 ≤ 4) = true := decide_eq_true c34
               clear c34
               by_cases c35 : a0_4 ≥ 0
               ·rw [if_pos c35] at H
                have c35b0 : decide (0 ≤ a0_4) = true := decide_eq_true c35
                clear c35
                replace H := Option.bind_eq_some_iff.mp H
                obtain ⟨t116, A360, H⟩ := H
                replace H : (some (t116 == 0)) = some r := H
                have A36 := Aside0.mk A360
                clear A360
                obtain rfl := Option.some.inj H
                obtain ⟨hcz37_0, hcz37_1, hcz37_2, hcz37_3, hcz37_4, hcz37_5, hfz37_0, hfz37_1, hfz37_2, hfz37_3, hfz37_4, hfz37_5⟩ := bx6 BK114.out
                go_wp2_with (first | (go_at_call 48; (with_reducible refine (decimal_Check.calls a0_4 a0_5 t116 _ A36.out).mono ?_); rintro e w38 ⟨rfl, hb⟩; have n0_ := Aside0.mk (blk_below (g := gb114) (o := .cells #[.int .i64 a0_0, .int .i64 a0_1, .string a0_2, .int .i64 a0_3, .int .i64 a0_4, .int .i64 a0_5] 44 (0, 0)) (ph_ BK114.out) hb); have n1_ := Aside0.mk (below_step (hb1_ HB.out GE114.out) hb); clear BK114; clear HB; have BK114 := n0_; have HB := n1_; clear n0_ n1_; (try clear hb); (try clear hb2); (try clear hk); (try clear hi)))
                go_ret
                exact ⟨rf_, (hb1_ HB.out GE114.out)⟩
               ·rw [if_neg c35] at H
                have c35b0 : decide (0 ≤ a0_4) = false := decide_eq_false c35
                clear c35
                obtain rfl := Option.some.inj H
                obtain ⟨hcz39_0, hcz39_1, hcz39_2, hcz39_3, hcz39_4, hcz39_5, hfz39_0, hfz39_1, hfz39_2, hfz39_3, hfz39_4, hfz39_5⟩ := bx6 BK114.out
                go_wp2
                go_ret
                exact ⟨rf_, (hb1_ HB.out GE114.out)⟩
              ·rw [if_neg c34] at H
               have c34b0 : decide (a0_3 ≤ 4) = false := decide_eq_false c34
               clear c34
               obtain rfl := Option.some.inj H
               obtain ⟨hcz40_0, hcz40_1, hcz40_2, hcz40_3, hcz40_4, hcz40_5, hfz40_0, hfz40_1, hfz40_2, hfz40_3, hfz40_4, hfz40_5⟩ := bx6 BK114.out
               go_wp2
               go_ret
               exact ⟨rf_, (hb1_ HB.out GE114.out)⟩
             ·rw [if_neg c33] at H
              have c33b0 : decide (1 ≤ a0_3) = false := decide_eq_false c33
              clear c33
              obtain rfl := Option.some.inj H
              obtain ⟨hcz41_0, hcz41_1, hcz41_2, hcz41_3, hcz41_4, hcz41_5, hfz41_0, hfz41_1, hfz41_2, hfz41_3, hfz41_4, hfz41_5⟩ := bx6 BK114.out
              go_wp2
              go_ret
              exact ⟨rf_, (hb1_ HB.out GE114.out)⟩
            ·rw [if_neg c32] at H
             have c32b0 : (a0_2.toList == ([] : List UInt8)) = false := beq_eq_false_iff_ne.mpr c32
             have c32b1 : (a0_2.toList != ([] : List UInt8)) = true := bne_iff_ne.mpr c32
             obtain rfl := Option.some.inj H
             obtain ⟨hcz42_0, hcz42_1, hcz42_2, hcz42_3, hcz42_4, hcz42_5, hfz42_0, hfz42_1, hfz42_2, hfz42_3, hfz42_4, hfz42_5⟩ := bx6 BK114.out
             go_wp2
             go_ret
             exact ⟨rf_, (hb1_ HB.out GE114.out)⟩
           ·rw [if_neg c31] at H
            have c31b0 : (a0_1 == 0) = false := beq_eq_false_iff_ne.mpr c31
            have c31b1 : (a0_1 != 0) = true := bne_iff_ne.mpr c31
            obtain rfl := Option.some.inj H
            obtain ⟨hcz43_0, hcz43_1, hcz43_2, hcz43_3, hcz43_4, hcz43_5, hfz43_0, hfz43_1, hfz43_2, hfz43_3, hfz43_4, hfz43_5⟩ := bx6 BK114.out
            go_wp2
            go_ret
            exact ⟨rf_, (hb1_ HB.out GE114.out)⟩
          ·rw [if_neg c30] at H
           have c30b0 : (a0_0 == 6) = false := beq_eq_false_iff_ne.mpr c30
           have c30b1 : (a0_0 != 6) = true := bne_iff_ne.mpr c30
           by_cases c44 : a0_0 = 7
           ·rw [if_pos c44] at H
            have c44b0 : (a0_0 == 7) = true := beq_iff_eq.mpr c44
            have c44b1 : (a0_0 != 7) = false := bne_eq_false_iff_eq.mpr c44
            clear c44
            by_cases c45 : a0_1 = 0
            ·rw [if_pos c45] at H
             have c45b0 : (a0_1 == 0) = true := beq_iff_eq.mpr c45
             have c45b1 : (a0_1 != 0) = false := bne_eq_false_iff_eq.mpr c45
             clear c45
             by_cases c46 : a0_2.toList = ([] : List UInt8)
             ·rw [if_pos c46] at H
              have c46b0 : (a0_2.toList == ([] : List UInt8)) = true := beq_iff_eq.mpr c46
              have c46b1 : (a0_2.toList != ([] : List UInt8)) = false := bne_eq_false_iff_eq.mpr c46
              clear c46
              by_cases c47 : a0_3 ≥ 1
              ·rw [if_pos c47] at H
               have c47b0 : decide (1 ≤ a0_3) = true := decide_eq_true c47
               clear c47
               by_cases c48 : a0_3 ≤ 4
               ·rw [if_pos c48] at H
                have c48b0 : decide (a0_3 ≤ 4) = true := decide_eq_true c48
                clear c48
                by_cases c49 : a0_4 ≥ 0
                ·rw [if_pos c49] at H
                 have c49b0 : decide (0 ≤ a0_4) = true := decide_eq_true c49
                 clear c49
                 replace H := Option.bind_eq_some_iff.mp H
                 obtain ⟨t117, A500, H⟩ := H
                 replace H : (some (t117 == 0)) = some r := H
                 have A50 := Aside0.mk A500
                 clear A500
                 obtain rfl := Option.some.inj H
                 obtain ⟨hcz51_0, hcz51_1, hcz51_2, hcz51_3, hcz51_4, hcz51_5, hfz51_0, hfz51_1, hfz51_2, hfz51_3, hfz51_4, hfz51_5⟩ := bx6 BK114.out
                 go_wp2_with (first | (go_at_call 48; (with_reducible refine (decimal_Check.calls a0_4 a0_5 t117 _ A50.out).mono ?_); rintro e w52 ⟨rfl, hb⟩; have n0_ := Aside0.mk (blk_below (g := gb114) (o := .cells #[.int .i64 a0_0, .int .i64 a0_1, .string a0_2, .int .i64 a0_3, .int .i64 a0_4, .int .i64 a0_5] 44 (0, 0)) (ph_ BK114.out) hb); have n1_ := Aside0.mk (below_step (hb1_ HB.out GE114.out) hb); clear BK114; clear HB; have BK114 := n0_; have HB := n1_; clear n0_ n1_; (try clear hb); (try clear hb2); (try clear hk); (try clear hi)))
                 go_ret
                 exact ⟨rf_, (hb1_ HB.out GE114.out)⟩
                ·rw [if_neg c49] at H
                 have c49b0 : decide (0 ≤ a0_4) = false := decide_eq_false c49
                 clear c49
                 obtain rfl := Option.some.inj H
                 obtain ⟨hcz53_0, hcz53_1, hcz53_2, hcz53_3, hcz53_4, hcz53_5, hfz53_0, hfz53_1, hfz53_2, hfz53_3, hfz53_4, hfz53_5⟩ := bx6 BK114.out
                 go_wp2
                 go_ret
                 exact ⟨rf_, (hb1_ HB.out GE114.out)⟩
               ·rw [if_neg c48] at H
                have c48b0 : decide (a0_3 ≤ 4) = false := decide_eq_false c48
                clear c48
                obtain rfl := Option.some.inj H
                obtain ⟨hcz54_0, hcz54_1, hcz54_2, hcz54_3, hcz54_4, hcz54_5, hfz54_0, hfz54_1, hfz54_2, hfz54_3, hfz54_4, hfz54_5⟩ := bx6 BK114.out
                go_wp2
                go_ret
                exact ⟨rf_, (hb1_ HB.out GE114.out)⟩
              ·rw [if_neg c47] at H
               have c47b0 : decide (1 ≤ a0_3) = false := decide_eq_false c47
               clear c47
               obtain rfl := Option.some.inj H
               obtain ⟨hcz55_0, hcz55_1, hcz55_2, hcz55_3, hcz55_4, hcz55_5, hfz55_0, hfz55_1, hfz55_2, hfz55_3, hfz55_4, hfz55_5⟩ := bx6 BK114.out
               go_wp2
               go_ret
               exact ⟨rf_, (hb1_ HB.out GE114.out)⟩
             ·rw [if_neg c46] at H
              have c46b0 : (a0_2.toList == ([] : List UInt8)) = false := beq_eq_false_iff_ne.mpr c46
              have c46b1 : (a0_2.toList != ([] : List UInt8)) = true := bne_iff_ne.mpr c46
              obtain rfl := Option.some.inj H
              obtain ⟨hcz56_0, hcz56_1, hcz56_2, hcz56_3, hcz56_4, hcz56_5, hfz56_0, hfz56_1, hfz56_2, hfz56_3, hfz56_4, hfz56_5⟩ := bx6 BK114.out
              go_wp2
              go_ret
              exact ⟨rf_, (hb1_ HB.out GE114.out)⟩
            ·rw [if_neg c45] at H
             have c45b0 : (a0_1 == 0) = false := beq_eq_false_iff_ne.mpr c45
             have c45b1 : (a0_1 != 0) = true := bne_iff_ne.mpr c45
             obtain rfl := Option.some.inj H
             obtain ⟨hcz57_0, hcz57_1, hcz57_2, hcz57_3, hcz57_4, hcz57_5, hfz57_0, hfz57_1, hfz57_2, hfz57_3, hfz57_4, hfz57_5⟩ := bx6 BK114.out
             go_wp2
             go_ret
             exact ⟨rf_, (hb1_ HB.out GE114.out)⟩
           ·rw [if_neg c44] at H
            have c44b0 : (a0_0 == 7) = false := beq_eq_false_iff_ne.mpr c44
            have c44b1 : (a0_0 != 7) = true := bne_iff_ne.mpr c44
            obtain rfl := Option.some.inj H
            go_wp2
            go_ret
            exact ⟨rf_, (hb1_ HB.out GE114.out)⟩
end Go.Proofs.YtlboolhjfffppaaGreatDoor.PBLI
