-- Written by this session's program (wip/tools/pr.py over the kit's print).
import Derived.Test.YtcljnjnlafkieaaGreatDoorRPh
import Derived.Test.YtcljnjnlafkieaaGreatDoorRPPLNx0
import Derived.Test.YtcljnjnlafkieaaGreatDoorRPPLNx1
import Derived.Test.YtcljnjnlafkieaaGreatDoorRPPLNx7
namespace Go.Proofs.YtcljnjnlafkieaaGreatDoorR.PPLN
open Go.RowKit Go.Proofs.YtcljnjnlafkieaaGreatDoorRW.PrintWords Go.Proofs.YtcljnjnlafkieaaGreatDoorRW.PrintLast Go.Proofs.YtcljnjnlafkieaaGreatDoorRW.PrintMore
attribute [local go_sem] max2_int min2_int max_two min_two max_three min_three max_four min_four
set_option linter.unusedVariables false
set_option linter.unusedSimpArgs false
attribute [local go_sem high] eqA43
mutual
def tollbookref13_single.j0 : Nat → Int → Bool → Int → Int → ByteArray → Int → Int → Int → Int → Int → Option (Bool)
 | 0, _, _, _, _, _, _, _, _, _, _ => none
 | k + 1, x7, x8, x144000, x144001, x144002, x144003, x144004, x144005, x145000, x145001 => if x8 = true then (if x144001 ≥ 2 then (if x144002.toList = ([] : List UInt8) then (if x144003 = 0 then (some (x144004 == x145000 && (x144005 == x145001))) else (some false)) else (some false)) else (some false)) else (if x7 = 3 then (if x144001 = 1 then (if x144002.toList = ([] : List UInt8) then (if x144003 = 0 then (some (x144004 == x145000 && (x144005 == x145001))) else (some false)) else (some false)) else (some false)) else (if x7 = 4 then (tollbookref13_single.j1 k x7 (x7 == 4) x144000 x144001 x144002 x144003 x144004 x144005 x145000 x145001) else (tollbookref13_single.j1 k x7 (x7 == 5) x144000 x144001 x144002 x144003 x144004 x144005 x145000 x145001)))
def tollbookref13_single.j1 : Nat → Int → Bool → Int → Int → ByteArray → Int → Int → Int → Int → Int → Option (Bool)
 | 0, _, _, _, _, _, _, _, _, _, _ => none
 | k + 1, x7, x51, x144000, x144001, x144002, x144003, x144004, x144005, x145000, x145001 => if x51 = true then ((tollbookref12_Word.f k x144002).bind fun t145 => (if x144001 = 0 then (if t145 = true then (if x144003 = 0 then (some (x144004 == x145000 && (x144005 == x145001))) else (some false)) else (some false)) else (some false))) else (if x7 = 6 then (if x144001 = 0 then (if x144002.toList = ([] : List UInt8) then (if x144003 ≥ 1 then (if x144003 ≤ 4 then (if x144004 ≥ 0 then ((tollbookref06_Check.f x144004 x144005).bind fun t146 => (some (t146 == 0))) else (some false)) else (some false)) else (some false)) else (some false)) else (some false)) else (if x7 = 7 then (if x144001 = 0 then (if x144002.toList = ([] : List UInt8) then (if x144003 ≥ 1 then (if x144003 ≤ 4 then (if x144004 ≥ 0 then ((tollbookref06_Check.f x144004 x144005).bind fun t147 => (some (t147 == 0))) else (some false)) else (some false)) else (some false)) else (some false)) else (some false)) else (some false)))
end
def tollbookref13_single.f (k : Nat) (a0_0 : Int) (a0_1 : Int) (a0_2 : ByteArray) (a0_3 : Int) (a0_4 : Int) (a0_5 : Int) : Option (Bool) := if a0_0 = 1 then (tollbookref13_single.j0 k a0_0 (a0_0 == 1) a0_0 a0_1 a0_2 a0_3 a0_4 a0_5 0 0) else (tollbookref13_single.j0 k a0_0 (a0_0 == 2) a0_0 a0_1 a0_2 a0_3 a0_4 a0_5 0 0)
set_option maxHeartbeats 8000000 in
set_option maxRecDepth 100000 in
theorem tollbookref13_single.calls (k : Nat) (a0_0 : Int) (a0_1 : Int) (a0_2 : ByteArray) (a0_3 : Int) (a0_4 : Int) (a0_5 : Int) (r : Bool) (w : World) (h : tollbookref13_single.f k a0_0 a0_1 a0_2 a0_3 a0_4 a0_5 = some r) :
  Calls Tryz.prog 46 #[.agg #[.int .i64 a0_0, .int .i64 a0_1, .string a0_2, .int .i64 a0_3, .int .i64 a0_4, .int .i64 a0_5]] w fun e w' => e = .returned (.bool r) ∧ Below w.heap.size w w' := by
 have hu45 := Tryz.underlying45
 have hu43 := Tryz.underlying43
 have HB := Aside0.mk (Below.refl w.heap.size w)
 have H : (if a0_0 = 1 then (tollbookref13_single.j0 k a0_0 (a0_0 == 1) a0_0 a0_1 a0_2 a0_3 a0_4 a0_5 0 0) else (tollbookref13_single.j0 k a0_0 (a0_0 == 2) a0_0 a0_1 a0_2 a0_3 a0_4 a0_5 0 0)) = some r := h
 clear h
 have HC2 := Aside0.mk H
 clear H
 go_enter Tryz.func46, Tryz.ntmps46
 go_upto_if 8 with (first | ((with_reducible refine gate_dst (N := 1) rfl ?_); refine box_event ?hg (N := 1) ?hd (cs := #[.int .i64 a0_0, .int .i64 a0_1, .string a0_2, .int .i64 a0_3, .int .i64 a0_4, .int .i64 a0_5]) (t := 45) ?hr ?_; (case hd => rfl); (case hg => rfl); (case hr => first | (go_simp; done) | (go_simp; rfl)); intro gb143 hg w3 hbox hb; have n0_ := Aside0.mk (below_step (hb0_ HB.out) hb); have n1_ := Aside0.mk (hbox); have n2_ := Aside0.mk ((by rw [hg]; exact (below_size (hb0_ HB.out)) : w.heap.size ≤ gb143)); have n3_ := Aside0.mk ((by rw [hg]; exact (below_size (hb0_ HB.out)) : w.heap.size ≤ gb143)); clear HB; have HB := n0_; have BK143 := n1_; have GW143 := n2_; have GE143 := n3_; clear n0_ n1_ n2_ n3_; clear hb hbox hg) | ((with_reducible refine gate_dst (N := 3) rfl ?_); refine box_event ?hg (N := 3) ?hd (cs := #[.int .i64 0, .int .i64 0]) (t := 43) ?hr ?_; (case hd => rfl); (case hg => rfl); (case hr => first | (go_simp; done) | (go_simp; rfl)); intro gb144 hg w4 hbox hb; have n0_ := Aside0.mk (blk_below (g := gb143) (o := .cells #[.int .i64 a0_0, .int .i64 a0_1, .string a0_2, .int .i64 a0_3, .int .i64 a0_4, .int .i64 a0_5] 45 (0, 0)) (ph_ BK143.out) hb); have n1_ := Aside0.mk (below_step (hb1_ HB.out GE143.out) hb); have n2_ := Aside0.mk (hbox); have n3_ := Aside0.mk ((by rw [hg]; exact (below_size (hb1_ HB.out GE143.out)) : w.heap.size ≤ gb144)); have n4_ := n3_; have n5_ := Aside0.mk ((by rw [hg]; exact Nat.ne_of_lt (blk_lt (g := gb143) (o := .cells #[.int .i64 a0_0, .int .i64 a0_1, .string a0_2, .int .i64 a0_3, .int .i64 a0_4, .int .i64 a0_5] 45 (0, 0)) (ph_ BK143.out)) : gb143 ≠ gb144)); have n6_ := Aside0.mk ((by rw [hg]; exact Nat.ne_of_gt (blk_lt (g := gb143) (o := .cells #[.int .i64 a0_0, .int .i64 a0_1, .string a0_2, .int .i64 a0_3, .int .i64 a0_4, .int .i64 a0_5] 45 (0, 0)) (ph_ BK143.out)) : gb144 ≠ gb143)); clear BK143; clear HB; have BK143 := n0_; have HB := n1_; have BK144 := n2_; have GW144 := n3_; have GE144 := n4_; have NB143_144 := n5_; have NB144_143 := n6_; clear n0_ n1_ n2_ n3_ n4_ n5_ n6_; clear hb hbox hg; have hnb5 := NB144_143.out; have hnc5 := NB143_144.out; obtain ⟨hcz6_0, hcz6_1, hfz6_0, hfz6_1⟩ := bx2 BK144.out; obtain ⟨hcz7_0, hcz7_1, hcz7_2, hcz7_3, hcz7_4, hcz7_5, hfz7_0, hfz7_1, hfz7_2, hfz7_3, hfz7_4, hfz7_5⟩ := bx6 BK143.out))
 (try simp only [Act.put, List.setIfInBounds_toArray, List.set_cons_zero, List.set_cons_succ])
 go_cut [8] (fun v8 wc => ∃ (kq : Nat) (x8_1 : Bool), v8 = .bool x8_1 ∧ Aside0 (tollbookref13_single.j0 kq a0_0 x8_1 a0_0 a0_1 a0_2 a0_3 a0_4 a0_5 0 0 = some r) ∧ Aside0 (kq ≤ k) ∧ Aside0 (wc.heap[gb143]? = some (.cells #[.int .i64 a0_0, .int .i64 a0_1, .string a0_2, .int .i64 a0_3, .int .i64 a0_4, .int .i64 a0_5] 45 (0, 0))) ∧ Aside0 (wc.heap[gb144]? = some (.cells #[.int .i64 0, .int .i64 0] 43 (0, 0))) ∧ Aside0 (Below w.heap.size w wc))
 case first =>
  have H := HC2.out
  clear HC2
  by_cases c8 : a0_0 = 1
  ·rw [if_pos c8] at H
   have c8b0 : (a0_0 == 1) = true := beq_iff_eq.mpr c8
   have c8b1 : (a0_0 != 1) = false := bne_eq_false_iff_eq.mpr c8
   clear c8
   (first | rw [c8b0] | (simp only [i64_w, i32_w]; rw [c8b0]) | skip)
   have H' := Aside0.mk H
   clear H
   go_wp2
   go_meet
   case rel => exact ⟨_, ((a0_0 == 1)), (by first | rfl | (simp; done) | (simp [*]; done)), H', ⟨by first | omega | exact Nat.le_refl _⟩, ⟨by (repeat ((with_reducible repeat (first | refine blk_drewN ?_ _ | refine blk_drew ?_ | refine blk_alloc ?_ _)); refine blk_far ?_ NB143_144.out _)); (with_reducible repeat (first | refine blk_drewN ?_ _ | refine blk_drew ?_ | refine blk_alloc ?_ _)); exact BK143.out⟩, ⟨by (with_reducible repeat (first | refine blk_drewN ?_ _ | refine blk_drew ?_ | refine blk_alloc ?_ _)); refine blk_put (cs := #[.int .i64 0, .int .i64 0]) ?_ 1 _ rfl; (with_reducible repeat (first | refine blk_drewN ?_ _ | refine blk_drew ?_ | refine blk_alloc ?_ _)); refine blk_put (cs := #[.int .i64 0, .int .i64 0]) ?_ 0 _ rfl; (with_reducible repeat (first | refine blk_drewN ?_ _ | refine blk_drew ?_ | refine blk_alloc ?_ _)); exact BK144.out⟩, ⟨(hb2_ HB.out GE143.out GE144.out)⟩⟩
  ·rw [if_neg c8] at H
   have c8b0 : (a0_0 == 1) = false := beq_eq_false_iff_ne.mpr c8
   have c8b1 : (a0_0 != 1) = true := bne_iff_ne.mpr c8
   (first | rw [c8b0] | (simp only [i64_w, i32_w]; rw [c8b0]) | skip)
   have H' := Aside0.mk H
   clear H
   go_wp2
   go_meet
   case rel => exact ⟨_, ((a0_0 == 2)), (by first | rfl | (simp; done) | (simp [*]; done)), H', ⟨by first | omega | exact Nat.le_refl _⟩, ⟨by (repeat ((with_reducible repeat (first | refine blk_drewN ?_ _ | refine blk_drew ?_ | refine blk_alloc ?_ _)); refine blk_far ?_ NB143_144.out _)); (with_reducible repeat (first | refine blk_drewN ?_ _ | refine blk_drew ?_ | refine blk_alloc ?_ _)); exact BK143.out⟩, ⟨by (with_reducible repeat (first | refine blk_drewN ?_ _ | refine blk_drew ?_ | refine blk_alloc ?_ _)); refine blk_put (cs := #[.int .i64 0, .int .i64 0]) ?_ 1 _ rfl; (with_reducible repeat (first | refine blk_drewN ?_ _ | refine blk_drew ?_ | refine blk_alloc ?_ _)); refine blk_put (cs := #[.int .i64 0, .int .i64 0]) ?_ 0 _ rfl; (with_reducible repeat (first | refine blk_drewN ?_ _ | refine blk_drew ?_ | refine blk_alloc ?_ _)); exact BK144.out⟩, ⟨(hb2_ HB.out GE143.out GE144.out)⟩⟩
 case rest =>
  clear HC2
  try clear p2
  try clear c4
  try clear c5
  try clear c8
  try clear c8b0
  try clear c8b1
  try clear hcz6_0
  try clear hcz6_1
  try clear hcz7_0
  try clear hcz7_1
  try clear hcz7_2
  try clear hcz7_3
  try clear hcz7_4
  try clear hcz7_5
  try clear hfz6_0
  try clear hfz6_1
  try clear hfz7_0
  try clear hfz7_1
  try clear hfz7_2
  try clear hfz7_3
  try clear hfz7_4
  try clear hfz7_5
  obtain ⟨kq, x8_1, rfl, HA, HJ1, BK143, BK144, HB⟩ := hcut
  cases kq with
  | zero => exact absurd HA.out (by simp [tollbookref13_single.j0])
  | succ kj1 =>
   have H := HA.out
   clear HA
   simp only [tollbookref13_single.j0] at H
   by_cases c9 : x8_1 = true
   ·subst c9
    have H1 : (if a0_1 ≥ 2 then (if a0_2.toList = ([] : List UInt8) then (if a0_3 = 0 then (some (a0_4 == 0 && (a0_5 == 0))) else (some false)) else (some false)) else (some false)) = some r := by rw [if_pos rfl] at H; exact H
    clear H
    have H := H1
    clear H1
    by_cases c10 : a0_1 ≥ 2
    ·rw [if_pos c10] at H
     have c10b0 : decide (2 ≤ a0_1) = true := decide_eq_true c10
     clear c10
     by_cases c11 : a0_2.toList = ([] : List UInt8)
     ·rw [if_pos c11] at H
      have c11b0 : (a0_2.toList == ([] : List UInt8)) = true := beq_iff_eq.mpr c11
      have c11b1 : (a0_2.toList != ([] : List UInt8)) = false := bne_eq_false_iff_eq.mpr c11
      clear c11
      by_cases c12 : a0_3 = 0
      ·rw [if_pos c12] at H
       have c12b0 : (a0_3 == 0) = true := beq_iff_eq.mpr c12
       have c12b1 : (a0_3 != 0) = false := bne_eq_false_iff_eq.mpr c12
       clear c12
       obtain rfl := Option.some.inj H
       have hnb13 := NB143_144.out
       have hnc13 := NB144_143.out
       obtain ⟨hcz14_0, hcz14_1, hcz14_2, hcz14_3, hcz14_4, hcz14_5, hfz14_0, hfz14_1, hfz14_2, hfz14_3, hfz14_4, hfz14_5⟩ := bx6 BK143.out
       obtain ⟨hcz15_0, hcz15_1, hfz15_0, hfz15_1⟩ := bx2 BK144.out
       go_wp2
       go_ret
       exact ⟨rf_, (hb2_ HB.out GE143.out GE144.out)⟩
      ·rw [if_neg c12] at H
       have c12b0 : (a0_3 == 0) = false := beq_eq_false_iff_ne.mpr c12
       have c12b1 : (a0_3 != 0) = true := bne_iff_ne.mpr c12
       obtain rfl := Option.some.inj H
       have hnb16 := NB143_144.out
       have hnc16 := NB144_143.out
       obtain ⟨hcz17_0, hcz17_1, hcz17_2, hcz17_3, hcz17_4, hcz17_5, hfz17_0, hfz17_1, hfz17_2, hfz17_3, hfz17_4, hfz17_5⟩ := bx6 BK143.out
       go_wp2
       go_ret
       exact ⟨rf_, (hb2_ HB.out GE143.out GE144.out)⟩
     ·rw [if_neg c11] at H
      have c11b0 : (a0_2.toList == ([] : List UInt8)) = false := beq_eq_false_iff_ne.mpr c11
      have c11b1 : (a0_2.toList != ([] : List UInt8)) = true := bne_iff_ne.mpr c11
      obtain rfl := Option.some.inj H
      have hnb18 := NB143_144.out
      have hnc18 := NB144_143.out
      obtain ⟨hcz19_0, hcz19_1, hcz19_2, hcz19_3, hcz19_4, hcz19_5, hfz19_0, hfz19_1, hfz19_2, hfz19_3, hfz19_4, hfz19_5⟩ := bx6 BK143.out
      go_wp2
      go_ret
      exact ⟨rf_, (hb2_ HB.out GE143.out GE144.out)⟩
    ·rw [if_neg c10] at H
     have c10b0 : decide (2 ≤ a0_1) = false := decide_eq_false c10
     clear c10
     obtain rfl := Option.some.inj H
     have hnb20 := NB143_144.out
     have hnc20 := NB144_143.out
     obtain ⟨hcz21_0, hcz21_1, hcz21_2, hcz21_3, hcz21_4, hcz21_5, hfz21_0, hfz21_1, hfz21_2, hfz21_3, hfz21_4, hfz21_5⟩ := bx6 BK143.out
     go_wp2
     go_ret
     exact ⟨rf_, (hb2_ HB.out GE143.out GE144.out)⟩
   ·replace c9 := Bool.eq_false_iff.mpr c9
    subst c9
    have H1 : (if a0_0 = 3 then (if a0_1 = 1 then (if a0_2.toList = ([] : List UInt8) then (if a0_3 = 0 then (some (a0_4 == 0 && (a0_5 == 0))) else (some false)) else (some false)) else (some false)) else (if a0_0 = 4 then (tollbookref13_single.j1 kj1 a0_0 (a0_0 == 4) a0_0 a0_1 a0_2 a0_3 a0_4 a0_5 0 0) else (tollbookref13_single.j1 kj1 a0_0 (a0_0 == 5) a0_0 a0_1 a0_2 a0_3 a0_4 a0_5 0 0))) = some r := by rw [if_neg (show ¬ (false = true) by decide)] at H; exact H
    clear H
    have H := H1
    clear H1
    by_cases c22 : a0_0 = 3
    ·rw [if_pos c22] at H
     have c22b0 : (a0_0 == 3) = true := beq_iff_eq.mpr c22
     have c22b1 : (a0_0 != 3) = false := bne_eq_false_iff_eq.mpr c22
     clear c22
     by_cases c23 : a0_1 = 1
     ·rw [if_pos c23] at H
      have c23b0 : (a0_1 == 1) = true := beq_iff_eq.mpr c23
      have c23b1 : (a0_1 != 1) = false := bne_eq_false_iff_eq.mpr c23
      clear c23
      by_cases c24 : a0_2.toList = ([] : List UInt8)
      ·rw [if_pos c24] at H
       have c24b0 : (a0_2.toList == ([] : List UInt8)) = true := beq_iff_eq.mpr c24
       have c24b1 : (a0_2.toList != ([] : List UInt8)) = false := bne_eq_false_iff_eq.mpr c24
       clear c24
       by_cases c25 : a0_3 = 0
       ·rw [if_pos c25] at H
        have c25b0 : (a0_3 == 0) = true := beq_iff_eq.mpr c25
        have c25b1 : (a0_3 != 0) = false := bne_eq_false_iff_eq.mpr c25
        clear c25
        obtain rfl := Option.some.inj H
        have hnb26 := NB143_144.out
        have hnc26 := NB144_143.out
        obtain ⟨hcz27_0, hcz27_1, hcz27_2, hcz27_3, hcz27_4, hcz27_5, hfz27_0, hfz27_1, hfz27_2, hfz27_3, hfz27_4, hfz27_5⟩ := bx6 BK143.out
        obtain ⟨hcz28_0, hcz28_1, hfz28_0, hfz28_1⟩ := bx2 BK144.out
        go_wp2
        go_ret
        exact ⟨rf_, (hb2_ HB.out GE143.out GE144.out)⟩
       ·rw [if_neg c25] at H
        have c25b0 : (a0_3 == 0) = false := beq_eq_false_iff_ne.mpr c25
        have c25b1 : (a0_3 != 0) = true := bne_iff_ne.mpr c25
        obtain rfl := Option.some.inj H
        have hnb29 := NB143_144.out
        have hnc29 := NB144_143.out
        obtain ⟨hcz30_0, hcz30_1, hcz30_2, hcz30_3, hcz30_4, hcz30_5, hfz30_0, hfz30_1, hfz30_2, hfz30_3, hfz30_4, hfz30_5⟩ := bx6 BK143.out
        go_wp2
        go_ret
        exact ⟨rf_, (hb2_ HB.out GE143.out GE144.out)⟩
      ·rw [if_neg c24] at H
       have c24b0 : (a0_2.toList == ([] : List UInt8)) = false := beq_eq_false_iff_ne.mpr c24
       have c24b1 : (a0_2.toList != ([] : List UInt8)) = true := bne_iff_ne.mpr c24
       obtain rfl := Option.some.inj H
       have hnb31 := NB143_144.out
       have hnc31 := NB144_143.out
       obtain ⟨hcz32_0, hcz32_1, hcz32_2, hcz32_3, hcz32_4, hcz32_5, hfz32_0, hfz32_1, hfz32_2, hfz32_3, hfz32_4, hfz32_5⟩ := bx6 BK143.out
       go_wp2
       go_ret
       exact ⟨rf_, (hb2_ HB.out GE143.out GE144.out)⟩
     ·rw [if_neg c23] at H
      have c23b0 : (a0_1 == 1) = false := beq_eq_false_iff_ne.mpr c23
      have c23b1 : (a0_1 != 1) = true := bne_iff_ne.mpr c23
      obtain rfl := Option.some.inj H
      have hnb33 := NB143_144.out
      have hnc33 := NB144_143.out
      obtain ⟨hcz34_0, hcz34_1, hcz34_2, hcz34_3, hcz34_4, hcz34_5, hfz34_0, hfz34_1, hfz34_2, hfz34_3, hfz34_4, hfz34_5⟩ := bx6 BK143.out
      go_wp2
      go_ret
      exact ⟨rf_, (hb2_ HB.out GE143.out GE144.out)⟩
    ·rw [if_neg c22] at H
     have c22b0 : (a0_0 == 3) = false := beq_eq_false_iff_ne.mpr c22
     have c22b1 : (a0_0 != 3) = true := bne_iff_ne.mpr c22
     have HC35 := Aside0.mk H
     clear H
     go_upto_if 51 with (fail)
     go_cut [51] (fun v51 wc => ∃ (kq : Nat) (x51_34 : Bool), v51 = .bool x51_34 ∧ Aside0 (tollbookref13_single.j1 kq a0_0 x51_34 a0_0 a0_1 a0_2 a0_3 a0_4 a0_5 0 0 = some r) ∧ Aside0 (kq ≤ kj1) ∧ Aside0 (wc.heap[gb143]? = some (.cells #[.int .i64 a0_0, .int .i64 a0_1, .string a0_2, .int .i64 a0_3, .int .i64 a0_4, .int .i64 a0_5] 45 (0, 0))) ∧ Aside0 (wc.heap[gb144]? = some (.cells #[.int .i64 0, .int .i64 0] 43 (0, 0))) ∧ Aside0 (Below w.heap.size w wc))
     case first =>
      have H := HC35.out
      clear HC35
      by_cases c36 : a0_0 = 4
      ·rw [if_pos c36] at H
       have c36b0 : (a0_0 == 4) = true := beq_iff_eq.mpr c36
       have c36b1 : (a0_0 != 4) = false := bne_eq_false_iff_eq.mpr c36
       clear c36
       (first | rw [c36b0] | (simp only [i64_w, i32_w]; rw [c36b0]) | skip)
       have H' := Aside0.mk H
       clear H
       go_wp2
       go_meet
       case rel => exact ⟨_, ((a0_0 == 4)), (by first | rfl | (simp; done) | (simp [*]; done)), H', ⟨by have := HJ1.out; first | omega | exact Nat.le_refl _⟩, ⟨by (with_reducible repeat (first | refine blk_drewN ?_ _ | refine blk_drew ?_ | refine blk_alloc ?_ _)); exact BK143.out⟩, ⟨by (with_reducible repeat (first | refine blk_drewN ?_ _ | refine blk_drew ?_ | refine blk_alloc ?_ _)); exact BK144.out⟩, ⟨(hb2_ HB.out GE143.out GE144.out)⟩⟩
      ·rw [if_neg c36] at H
       have c36b0 : (a0_0 == 4) = false := beq_eq_false_iff_ne.mpr c36
       have c36b1 : (a0_0 != 4) = true := bne_iff_ne.mpr c36
       (first | rw [c36b0] | (simp only [i64_w, i32_w]; rw [c36b0]) | skip)
       have H' := Aside0.mk H
       clear H
       go_wp2
       go_meet
       case rel => exact ⟨_, ((a0_0 == 5)), (by first | rfl | (simp; done) | (simp [*]; done)), H', ⟨by have := HJ1.out; first | omega | exact Nat.le_refl _⟩, ⟨by (with_reducible repeat (first | refine blk_drewN ?_ _ | refine blk_drew ?_ | refine blk_alloc ?_ _)); exact BK143.out⟩, ⟨by (with_reducible repeat (first | refine blk_drewN ?_ _ | refine blk_drew ?_ | refine blk_alloc ?_ _)); exact BK144.out⟩, ⟨(hb2_ HB.out GE143.out GE144.out)⟩⟩
     case rest =>
      clear HC35
      try clear c1
      try clear c2
      try clear p2
      try clear c3
      try clear c4
      try clear c5
      try clear c8
      try clear c8b0
      try clear c8b1
      try clear c9
      try clear c10
      try clear c10b0
      try clear c11
      try clear c11b0
      try clear c11b1
      try clear c12
      try clear c12b0
      try clear c12b1
      try clear c13
      try clear c16
      try clear c18
      try clear c20
      try clear c22
      try clear c22b0
      try clear c22b1
      try clear c23
      try clear c23b0
      try clear c23b1
      try clear c24
      try clear c24b0
      try clear c24b1
      try clear c25
      try clear c25b0
      try clear c25b1
      try clear c26
      try clear c29
      try clear c31
      try clear c33
      try clear c36
      try clear c36b0
      try clear c36b1
      try clear hcz14_0
      try clear hcz14_1
      try clear hcz14_2
      try clear hcz14_3
      try clear hcz14_4
      try clear hcz14_5
      try clear hcz15_0
      try clear hcz15_1
      try clear hcz17_0
      try clear hcz17_1
      try clear hcz17_2
      try clear hcz17_3
      try clear hcz17_4
      try clear hcz17_5
      try clear hcz19_0
      try clear hcz19_1
      try clear hcz19_2
      try clear hcz19_3
      try clear hcz19_4
      try clear hcz19_5
      try clear hcz21_0
      try clear hcz21_1
      try clear hcz21_2
      try clear hcz21_3
      try clear hcz21_4
      try clear hcz21_5
      try clear hcz27_0
      try clear hcz27_1
      try clear hcz27_2
      try clear hcz27_3
      try clear hcz27_4
      try clear hcz27_5
      try clear hcz28_0
      try clear hcz28_1
      try clear hcz30_0
      try clear hcz30_1
      try clear hcz30_2
      try clear hcz30_3
      try clear hcz30_4
      try clear hcz30_5
      try clear hcz32_0
      try clear hcz32_1
      try clear hcz32_2
      try clear hcz32_3
      try clear hcz32_4
      try clear hcz32_5
      try clear hcz34_0
      try clear hcz34_1
      try clear hcz34_2
      try clear hcz34_3
      try clear hcz34_4
      try clear hcz34_5
      try clear hcz6_0
      try clear hcz6_1
      try clear hcz7_0
      try clear hcz7_1
      try clear hcz7_2
      try clear hcz7_3
      try clear hcz7_4
      try clear hcz7_5
      try clear hfz14_0
      try clear hfz14_1
      try clear hfz14_2
      try clear hfz14_3
      try clear hfz14_4
      try clear hfz14_5
      try clear hfz15_0
      try clear hfz15_1
      try clear hfz17_0
      try clear hfz17_1
      try clear hfz17_2
      try clear hfz17_3
      try clear hfz17_4
      try clear hfz17_5
      try clear hfz19_0
      try clear hfz19_1
      try clear hfz19_2
      try clear hfz19_3
      try clear hfz19_4
      try clear hfz19_5
      try clear hfz21_0
      try clear hfz21_1
      try clear hfz21_2
      try clear hfz21_3
      try clear hfz21_4
      try clear hfz21_5
      try clear hfz27_0
      try clear hfz27_1
      try clear hfz27_2
      try clear hfz27_3
      try clear hfz27_4
      try clear hfz27_5
      try clear hfz28_0
      try clear hfz28_1
      try clear hfz30_0
      try clear hfz30_1
      try clear hfz30_2
      try clear hfz30_3
      try clear hfz30_4
      try clear hfz30_5
      try clear hfz32_0
      try clear hfz32_1
      try clear hfz32_2
      try clear hfz32_3
      try clear hfz32_4
      try clear hfz32_5
      try clear hfz34_0
      try clear hfz34_1
      try clear hfz34_2
      try clear hfz34_3
      try clear hfz34_4
      try clear hfz34_5
      try clear hfz6_0
      try clear hfz6_1
      try clear hfz7_0
      try clear hfz7_1
      try clear hfz7_2
      try clear hfz7_3
      try clear hfz7_4
      try clear hfz7_5
      try clear p2
      obtain ⟨kq, x51_34, rfl, HA, HJ34, BK143, BK144, HB⟩ := hcut
      cases kq with
      | zero => exact absurd HA.out (by simp [tollbookref13_single.j1])
      | succ kj34 =>
       have H := HA.out
       clear HA
       simp only [tollbookref13_single.j1] at H
       by_cases c37 : x51_34 = true
       ·subst c37
        have H1 : ((tollbookref12_Word.f kj34 a0_2).bind fun t145 => (if a0_1 = 0 then (if t145 = true then (if a0_3 = 0 then (some (a0_4 == 0 && (a0_5 == 0))) else (some false)) else (some false)) else (some false))) = some r := by rw [if_pos rfl] at H; exact H
        clear H
        have H := H1
        clear H1
        replace H := Option.bind_eq_some_iff.mp H
        obtain ⟨t145, A380, H⟩ := H
        replace H : (if a0_1 = 0 then (if t145 = true then (if a0_3 = 0 then (some (a0_4 == 0 && (a0_5 == 0))) else (some false)) else (some false)) else (some false)) = some r := H
        have A38 := Aside0.mk A380
        clear A380
        by_cases c39 : a0_1 = 0
        ·rw [if_pos c39] at H
         have c39b0 : (a0_1 == 0) = true := beq_iff_eq.mpr c39
         have c39b1 : (a0_1 != 0) = false := bne_eq_false_iff_eq.mpr c39
         clear c39
         by_cases c40 : t145 = true
         ·subst c40
          have H1 : (if a0_3 = 0 then (some (a0_4 == 0 && (a0_5 == 0))) else (some false)) = some r := by rw [if_pos rfl] at H; exact H
          clear H
          have H := H1
          clear H1
          by_cases c41 : a0_3 = 0
          ·rw [if_pos c41] at H
           have c41b0 : (a0_3 == 0) = true := beq_iff_eq.mpr c41
           have c41b1 : (a0_3 != 0) = false := bne_eq_false_iff_eq.mpr c41
           clear c41
           obtain rfl := Option.some.inj H
           have hnb42 := NB143_144.out
           have hnc42 := NB144_143.out
           obtain ⟨hcz43_0, hcz43_1, hcz43_2, hcz43_3, hcz43_4, hcz43_5, hfz43_0, hfz43_1, hfz43_2, hfz43_3, hfz43_4, hfz43_5⟩ := bx6 BK143.out
           go_wp2_with (first | ((with_reducible refine gate_callee (f := 65) rfl ?_); refine goesL_ (some 56) rfl rfl Tryz.func65 (by kernel_rfl) rfl #[.string a0_2] rfl (by (try simp only [List.map_toArray, List.map_cons, List.map_nil]); first | done | rfl | (simp only [List.length_drop, List.length_take]; rfl)) ?_; (with_reducible refine (tollbookref12_Word.calls kj34 a0_2 true _ A38.out).mono ?_); rintro e w44 ⟨rfl, hb⟩; refine ⟨_, rfl, ?_⟩; have n0_ := Aside0.mk (blk_below (g := gb143) (o := .cells #[.int .i64 a0_0, .int .i64 a0_1, .string a0_2, .int .i64 a0_3, .int .i64 a0_4, .int .i64 a0_5] 45 (0, 0)) (ph_ BK143.out) hb); have n1_ := Aside0.mk (blk_below (g := gb144) (o := .cells #[.int .i64 0, .int .i64 0] 43 (0, 0)) (ph_ BK144.out) hb); have n2_ := Aside0.mk (below_step (hb2_ HB.out GE143.out GE144.out) hb); clear BK143; clear BK144; clear HB; have BK143 := n0_; have BK144 := n1_; have HB := n2_; clear n0_ n1_ n2_; (try clear hb); (try clear hb2); (try clear hk); (try clear hi); obtain ⟨hcz45_0, hcz45_1, hcz45_2, hcz45_3, hcz45_4, hcz45_5, hfz45_0, hfz45_1, hfz45_2, hfz45_3, hfz45_4, hfz45_5⟩ := bx6 BK143.out; obtain ⟨hcz46_0, hcz46_1, hfz46_0, hfz46_1⟩ := bx2 BK144.out))
           go_ret
           exact ⟨rf_, (hb2_ HB.out GE143.out GE144.out)⟩
          ·rw [if_neg c41] at H
           have c41b0 : (a0_3 == 0) = false := beq_eq_false_iff_ne.mpr c41
           have c41b1 : (a0_3 != 0) = true := bne_iff_ne.mpr c41
           obtain rfl := Option.some.inj H
           have hnb47 := NB143_144.out
           have hnc47 := NB144_143.out
           obtain ⟨hcz48_0, hcz48_1, hcz48_2, hcz48_3, hcz48_4, hcz48_5, hfz48_0, hfz48_1, hfz48_2, hfz48_3, hfz48_4, hfz48_5⟩ := bx6 BK143.out
           go_wp2_with (first | ((with_reducible refine gate_callee (f := 65) rfl ?_); refine goesL_ (some 56) rfl rfl Tryz.func65 (by kernel_rfl) rfl #[.string a0_2] rfl (by (try simp only [List.map_toArray, List.map_cons, List.map_nil]); first | done | rfl | (simp only [List.length_drop, List.length_take]; rfl)) ?_; (with_reducible refine (tollbookref12_Word.calls kj34 a0_2 true _ A38.out).mono ?_); rintro e w49 ⟨rfl, hb⟩; refine ⟨_, rfl, ?_⟩; have n0_ := Aside0.mk (blk_below (g := gb143) (o := .cells #[.int .i64 a0_0, .int .i64 a0_1, .string a0_2, .int .i64 a0_3, .int .i64 a0_4, .int .i64 a0_5] 45 (0, 0)) (ph_ BK143.out) hb); have n1_ := Aside0.mk (blk_below (g := gb144) (o := .cells #[.int .i64 0, .int .i64 0] 43 (0, 0)) (ph_ BK144.out) hb); have n2_ := Aside0.mk (below_step (hb2_ HB.out GE143.out GE144.out) hb); clear BK143; clear BK144; clear HB; have BK143 := n0_; have BK144 := n1_; have HB := n2_; clear n0_ n1_ n2_; (try clear hb); (try clear hb2); (try clear hk); (try clear hi); obtain ⟨hcz50_0, hcz50_1, hcz50_2, hcz50_3, hcz50_4, hcz50_5, hfz50_0, hfz50_1, hfz50_2, hfz50_3, hfz50_4, hfz50_5⟩ := bx6 BK143.out))
           go_ret
           exact ⟨rf_, (hb2_ HB.out GE143.out GE144.out)⟩
         ·replace c40 := Bool.eq_false_iff.mpr c40
          subst c40
          have H1 : (some false) = some r := by rw [if_neg (show ¬ (false = true) by decide)] at H; exact H
          clear H
          have H := H1
          clear H1
          obtain rfl := Option.some.inj H
          have hnb51 := NB143_144.out
          have hnc51 := NB144_143.out
          obtain ⟨hcz52_0, hcz52_1, hcz52_2, hcz52_3, hcz52_4, hcz52_5, hfz52_0, hfz52_1, hfz52_2, hfz52_3, hfz52_4, hfz52_5⟩ := bx6 BK143.out
          go_wp2_with (first | ((with_reducible refine gate_callee (f := 65) rfl ?_); refine goesL_ (some 56) rfl rfl Tryz.func65 (by kernel_rfl) rfl #[.string a0_2] rfl (by (try simp only [List.map_toArray, List.map_cons, List.map_nil]); first | done | rfl | (simp only [List.length_drop, List.length_take]; rfl)) ?_; (with_reducible refine (tollbookref12_Word.calls kj34 a0_2 false _ A38.out).mono ?_); rintro e w53 ⟨rfl, hb⟩; refine ⟨_, rfl, ?_⟩; have n0_ := Aside0.mk (blk_below (g := gb143) (o := .cells #[.int .i64 a0_0, .int .i64 a0_1, .string a0_2, .int .i64 a0_3, .int .i64 a0_4, .int .i64 a0_5] 45 (0, 0)) (ph_ BK143.out) hb); have n1_ := Aside0.mk (blk_below (g := gb144) (o := .cells #[.int .i64 0, .int .i64 0] 43 (0, 0)) (ph_ BK144.out) hb); have n2_ := Aside0.mk (below_step (hb2_ HB.out GE143.out GE144.out) hb); clear BK143; clear BK144; clear HB; have BK143 := n0_; have BK144 := n1_; have HB := n2_; clear n0_ n1_ n2_; (try clear hb); (try clear hb2); (try clear hk); (try clear hi); obtain ⟨hcz54_0, hcz54_1, hcz54_2, hcz54_3, hcz54_4, hcz54_5, hfz54_0, hfz54_1, hfz54_2, hfz54_3, hfz54_4, hfz54_5⟩ := bx6 BK143.out))
          go_ret
          exact ⟨rf_, (hb2_ HB.out GE143.out GE144.out)⟩
        ·rw [if_neg c39] at H
         have c39b0 : (a0_1 == 0) = false := beq_eq_false_iff_ne.mpr c39
         have c39b1 : (a0_1 != 0) = true := bne_iff_ne.mpr c39
         obtain rfl := Option.some.inj H
         have hnb55 := NB143_144.out
         have hnc55 := NB144_143.out
         obtain ⟨hcz56_0, hcz56_1, hcz56_2, hcz56_3, hcz56_4, hcz56_5, hfz56_0, hfz56_1, hfz56_2, hfz56_3, hfz56_4, hfz56_5⟩ := bx6 BK143.out
         go_wp2_with (first | ((with_reducible refine gate_callee (f := 65) rfl ?_); refine goesL_ (some 56) rfl rfl Tryz.func65 (by kernel_rfl) rfl #[.string a0_2] rfl (by (try simp only [List.map_toArray, List.map_cons, List.map_nil]); first | done | rfl | (simp only [List.length_drop, List.length_take]; rfl)) ?_; (with_reducible refine (tollbookref12_Word.calls kj34 a0_2 t145 _ A38.out).mono ?_); rintro e w57 ⟨rfl, hb⟩; refine ⟨_, rfl, ?_⟩; have n0_ := Aside0.mk (blk_below (g := gb143) (o := .cells #[.int .i64 a0_0, .int .i64 a0_1, .string a0_2, .int .i64 a0_3, .int .i64 a0_4, .int .i64 a0_5] 45 (0, 0)) (ph_ BK143.out) hb); have n1_ := Aside0.mk (blk_below (g := gb144) (o := .cells #[.int .i64 0, .int .i64 0] 43 (0, 0)) (ph_ BK144.out) hb); have n2_ := Aside0.mk (below_step (hb2_ HB.out GE143.out GE144.out) hb); clear BK143; clear BK144; clear HB; have BK143 := n0_; have BK144 := n1_; have HB := n2_; clear n0_ n1_ n2_; (try clear hb); (try clear hb2); (try clear hk); (try clear hi); obtain ⟨hcz58_0, hcz58_1, hcz58_2, hcz58_3, hcz58_4, hcz58_5, hfz58_0, hfz58_1, hfz58_2, hfz58_3, hfz58_4, hfz58_5⟩ := bx6 BK143.out))
         go_ret
         exact ⟨rf_, (hb2_ HB.out GE143.out GE144.out)⟩
       ·replace c37 := Bool.eq_false_iff.mpr c37
        subst c37
        have H1 : (if a0_0 = 6 then (if a0_1 = 0 then (if a0_2.toList = ([] : List UInt8) then (if a0_3 ≥ 1 then (if a0_3 ≤ 4 then (if a0_4 ≥ 0 then ((tollbookref06_Check.f a0_4 a0_5).bind fun t146 => (some (t146 == 0))) else (some false)) else (some false)) else (some false)) else (some false)) else (some false)) else (if a0_0 = 7 then (if a0_1 = 0 then (if a0_2.toList = ([] : List UInt8) then (if a0_3 ≥ 1 then (if a0_3 ≤ 4 then (if a0_4 ≥ 0 then ((tollbookref06_Check.f a0_4 a0_5).bind fun t147 => (some (t147 == 0))) else (some false)) else (some false)) else (some false)) else (some false)) else (some false)) else (some false))) = some r := by rw [if_neg (show ¬ (false = true) by decide)] at H; exact H
        clear H
        have H := H1
        clear H1
        by_cases c59 : a0_0 = 6
        ·rw [if_pos c59] at H
         have c59b0 : (a0_0 == 6) = true := beq_iff_eq.mpr c59
         have c59b1 : (a0_0 != 6) = false := bne_eq_false_iff_eq.mpr c59
         clear c59
         by_cases c60 : a0_1 = 0
         ·rw [if_pos c60] at H
          have c60b0 : (a0_1 == 0) = true := beq_iff_eq.mpr c60
          have c60b1 : (a0_1 != 0) = false := bne_eq_false_iff_eq.mpr c60
          clear c60
          by_cases c61 : a0_2.toList = ([] : List UInt8)
          ·rw [if_pos c61] at H
           have c61b0 : (a0_2.toList == ([] : List UInt8)) = true := beq_iff_eq.mpr c61
           have c61b1 : (a0_2.toList != ([] : List UInt8)) = false := bne_eq_false_iff_eq.mpr c61
           clear c61
           by_cases c62 : a0_3 ≥ 1
           ·rw [if_pos c62] at H
            have c62b0 : decide (1 ≤ a0_3) = true := decide_eq_true c62
            clear c62
            by_cases c63 : a0_3 ≤ 4
            ·rw [if_pos c63] at H
             have c63b0 : decide (a0_3 ≤ 4) = true := decide_eq_true c63
             clear c63
             by_cases c64 : a0_4 ≥ 0
             ·rw [if_pos c64] at H
              have c64b0 : decide (0 ≤ a0_4) = true := decide_eq_true c64
              clear c64
              replace H := Option.bind_eq_some_iff.mp H
              obtain ⟨t146, A650, H⟩ := H
              replace H : (some (t146 == 0)) = some r := H
              have A65 := Aside0.mk A650
              clear A650
              obtain rfl := Option.some.inj H
              have hnb66 := NB143_144.out
              have hnc66 := NB144_143.out
              obtain ⟨hcz67_0, hcz67_1, hcz67_2, hcz67_3, hcz67_4, hcz67_5, hfz67_0, hfz67_1, hfz67_2, hfz67_3, hfz67_4, hfz67_5⟩ := bx6 BK143.out
              go_wp2_with (first | (go_at_call 66; (with_reducible refine (tollbookref06_Check.calls a0_4 a0_5 t146 _ A65.out).mono ?_); rintro e w68 ⟨rfl, hb⟩; have n0_ := Aside0.mk (blk_below (g := gb143) (o := .cells #[.int .i64 a0_0, .int .i64 a0_1, .string a0_2, .int .i64 a0_3, .int .i64 a0_4, .int .i64 a0_5] 45 (0, 0)) (ph_ BK143.out) hb); have n1_ := Aside0.mk (blk_below (g := gb144) (o := .cells #[.int .i64 0, .int .i64 0] 43 (0, 0)) (ph_ BK144.out) hb); have n2_ := Aside0.mk (below_step (hb2_ HB.out GE143.out GE144.out) hb); clear BK143; clear BK144; clear HB; have BK143 := n0_; have BK144 := n1_; have HB := n2_; clear n0_ n1_ n2_; (try clear hb); (try clear hb2); (try clear hk); (try clear hi)))
              go_ret
              exact ⟨rf_, (hb2_ HB.out GE143.out GE144.out)⟩
             ·rw [if_neg c64] at H
              have c64b0 : decide (0 ≤ a0_4) = false := decide_eq_false c64
              clear c64
              obtain rfl := Option.some.inj H
              have hnb69 := NB143_144.out
              have hnc69 := NB144_143.out
              obtain ⟨hcz70_0, hcz70_1, hcz70_2, hcz70_3, hcz70_4, hcz70_5, hfz70_0, hfz70_1, hfz70_2, hfz70_3, hfz70_4, hfz70_5⟩ := bx6 BK143.out
              go_wp2
              go_ret
              exact ⟨rf_, (hb2_ HB.out GE143.out GE144.out)⟩
            ·rw [if_neg c63] at H
             have c63b0 : decide (a0_3 ≤ 4) = false := decide_eq_false c63
             clear c63
             obtain rfl := Option.some.inj H
             have hnb71 := NB143_144.out
             have hnc71 := NB144_143.out
             obtain ⟨hcz72_0, hcz72_1, hcz72_2, hcz72_3, hcz72_4, hcz72_5, hfz72_0, hfz72_1, hfz72_2, hfz72_3, hfz72_4, hfz72_5⟩ := bx6 BK143.out
             go_wp2
             go_ret
             exact ⟨rf_, (hb2_ HB.out GE143.out GE144.out)⟩
           ·rw [if_neg c62] at H
            have c62b0 : decide (1 ≤ a0_3) = false := decide_eq_false c62
            clear c62
            obtain rfl := Option.some.inj H
            have hnb73 := NB143_144.out
            have hnc73 := NB144_143.out
            obtain ⟨hcz74_0, hcz74_1, hcz74_2, hcz74_3, hcz74_4, hcz74_5, hfz74_0, hfz74_1, hfz74_2, hfz74_3, hfz74_4, hfz74_5⟩ := bx6 BK143.out
            go_wp2
            go_ret
            exact ⟨rf_, (hb2_ HB.out GE143.out GE144.out)⟩
          ·rw [if_neg c61] at H
           have c61b0 : (a0_2.toList == ([] : List UInt8)) = false := beq_eq_false_iff_ne.mpr c61
           have c61b1 : (a0_2.toList != ([] : List UInt8)) = true := bne_iff_ne.mpr c61
           obtain rfl := Option.some.inj H
           have hnb75 := NB143_144.out
           have hnc75 := NB144_143.out
           obtain ⟨hcz76_0, hcz76_1, hcz76_2, hcz76_3, hcz76_4, hcz76_5, hfz76_0, hfz76_1, hfz76_2, hfz76_3, hfz76_4, hfz76_5⟩ := bx6 BK143.out
           go_wp2
           go_ret
           exact ⟨rf_, (hb2_ HB.out GE143.out GE144.out)⟩
         ·rw [if_neg c60] at H
          have c60b0 : (a0_1 == 0) = false := beq_eq_false_iff_ne.mpr c60
          have c60b1 : (a0_1 != 0) = true := bne_iff_ne.mpr c60
          obtain rfl := Option.some.inj H
          have hnb77 := NB143_144.out
          have hnc77 := NB144_143.out
          obtain ⟨hcz78_0, hcz78_1, hcz78_2, hcz78_3, hcz78_4, hcz78_5, hfz78_0, hfz78_1, hfz78_2, hfz78_3, hfz78_4, hfz78_5⟩ := bx6 BK143.out
          go_wp2
          go_ret
          exact ⟨rf_, (hb2_ HB.out GE143.out GE144.out)⟩
        ·rw [if_neg c59] at H
         have c59b0 : (a0_0 == 6) = false := beq_eq_false_iff_ne.mpr c59
         have c59b1 : (a0_0 != 6) = true := bne_iff_ne.mpr c59
         by_cases c79 : a0_0 = 7
         ·rw [if_pos c79] at H
          have c79b0 : (a0_0 == 7) = true := beq_iff_eq.mpr c79
          have c79b1 : (a0_0 != 7) = false := bne_eq_false_iff_eq.mpr c79
          clear c79
          by_cases c80 : a0_1 = 0
          ·rw [if_pos c80] at H
           have c80b0 : (a0_1 == 0) = true := beq_iff_eq.mpr c80
           have c80b1 : (a0_1 != 0) = false := bne_eq_false_iff_eq.mpr c80
           clear c80
           by_cases c81 : a0_2.toList = ([] : List UInt8)
           ·rw [if_pos c81] at H
            have c81b0 : (a0_2.toList == ([] : List UInt8)) = true := beq_iff_eq.mpr c81
            have c81b1 : (a0_2.toList != ([] : List UInt8)) = false := bne_eq_false_iff_eq.mpr c81
            clear c81
            by_cases c82 : a0_3 ≥ 1
            ·rw [if_pos c82] at H
             have c82b0 : decide (1 ≤ a0_3) = true := decide_eq_true c82
             clear c82
             by_cases c83 : a0_3 ≤ 4
             ·rw [if_pos c83] at H
              have c83b0 : decide (a0_3 ≤ 4) = true := decide_eq_true c83
              clear c83
              by_cases c84 : a0_4 ≥ 0
              ·rw [if_pos c84] at H
               have c84b0 : decide (0 ≤ a0_4) = true := decide_eq_true c84
               clear c84
               replace H := Option.bind_eq_some_iff.mp H
               obtain ⟨t147, A850, H⟩ := H
               replace H : (some (t147 == 0)) = some r := H
               have A85 := Aside0.mk A850
               clear A850
               obtain rfl := Option.some.inj H
               have hnb86 := NB143_144.out
               have hnc86 := NB144_143.out
               obtain ⟨hcz87_0, hcz87_1, hcz87_2, hcz87_3, hcz87_4, hcz87_5, hfz87_0, hfz87_1, hfz87_2, hfz87_3, hfz87_4, hfz87_5⟩ := bx6 BK143.out
               go_wp2_with (first | (go_at_call 66; (with_reducible refine (tollbookref06_Check.calls a0_4 a0_5 t147 _ A85.out).mono ?_); rintro e w88 ⟨rfl, hb⟩; have n0_ := Aside0.mk (blk_below (g := gb143) (o := .cells #[.int .i64 a0_0, .int .i64 a0_1, .string a0_2, .int .i64 a0_3, .int .i64 a0_4, .int .i64 a0_5] 45 (0, 0)) (ph_ BK143.out) hb); have n1_ := Aside0.mk (blk_below (g := gb144) (o := .cells #[.int .i64 0, .int .i64 0] 43 (0, 0)) (ph_ BK144.out) hb); have n2_ := Aside0.mk (below_step (hb2_ HB.out GE143.out GE144.out) hb); clear BK143; clear BK144; clear HB; have BK143 := n0_; have BK144 := n1_; have HB := n2_; clear n0_ n1_ n2_; (try clear hb); (try clear hb2); (try clear hk); (try clear hi)))
               go_ret
               exact ⟨rf_, (hb2_ HB.out GE143.out GE144.out)⟩
              ·rw [if_neg c84] at H
               have c84b0 : decide (0 ≤ a0_4) = false := decide_eq_false c84
               clear c84
               obtain rfl := Option.some.inj H
               have hnb89 := NB143_144.out
               have hnc89 := NB144_143.out
               obtain ⟨hcz90_0, hcz90_1, hcz90_2, hcz90_3, hcz90_4, hcz90_5, hfz90_0, hfz90_1, hfz90_2, hfz90_3, hfz90_4, hfz90_5⟩ := bx6 BK143.out
               go_wp2
               go_ret
               exact ⟨rf_, (hb2_ HB.out GE143.out GE144.out)⟩
             ·rw [if_neg c83] at H
              have c83b0 : decide (a0_3 ≤ 4) = false := decide_eq_false c83
              clear c83
              obtain rfl := Option.some.inj H
              have hnb91 := NB143_144.out
              have hnc91 := NB144_143.out
              obtain ⟨hcz92_0, hcz92_1, hcz92_2, hcz92_3, hcz92_4, hcz92_5, hfz92_0, hfz92_1, hfz92_2, hfz92_3, hfz92_4, hfz92_5⟩ := bx6 BK143.out
              go_wp2
              go_ret
              exact ⟨rf_, (hb2_ HB.out GE143.out GE144.out)⟩
            ·rw [if_neg c82] at H
             have c82b0 : decide (1 ≤ a0_3) = false := decide_eq_false c82
             clear c82
             obtain rfl := Option.some.inj H
             have hnb93 := NB143_144.out
             have hnc93 := NB144_143.out
             obtain ⟨hcz94_0, hcz94_1, hcz94_2, hcz94_3, hcz94_4, hcz94_5, hfz94_0, hfz94_1, hfz94_2, hfz94_3, hfz94_4, hfz94_5⟩ := bx6 BK143.out
             go_wp2
             go_ret
             exact ⟨rf_, (hb2_ HB.out GE143.out GE144.out)⟩
           ·rw [if_neg c81] at H
            have c81b0 : (a0_2.toList == ([] : List UInt8)) = false := beq_eq_false_iff_ne.mpr c81
            have c81b1 : (a0_2.toList != ([] : List UInt8)) = true := bne_iff_ne.mpr c81
            obtain rfl := Option.some.inj H
            have hnb95 := NB143_144.out
            have hnc95 := NB144_143.out
            obtain ⟨hcz96_0, hcz96_1, hcz96_2, hcz96_3, hcz96_4, hcz96_5, hfz96_0, hfz96_1, hfz96_2, hfz96_3, hfz96_4, hfz96_5⟩ := bx6 BK143.out
            go_wp2
            go_ret
            exact ⟨rf_, (hb2_ HB.out GE143.out GE144.out)⟩
          ·rw [if_neg c80] at H
           have c80b0 : (a0_1 == 0) = false := beq_eq_false_iff_ne.mpr c80
           have c80b1 : (a0_1 != 0) = true := bne_iff_ne.mpr c80
           obtain rfl := Option.some.inj H
           have hnb97 := NB143_144.out
           have hnc97 := NB144_143.out
           obtain ⟨hcz98_0, hcz98_1, hcz98_2, hcz98_3, hcz98_4, hcz98_5, hfz98_0, hfz98_1, hfz98_2, hfz98_3, hfz98_4, hfz98_5⟩ := bx6 BK143.out
           go_wp2
           go_ret
           exact ⟨rf_, (hb2_ HB.out GE143.out GE144.out)⟩
         ·rw [if_neg c79] at H
          have c79b0 : (a0_0 == 7) = false := beq_eq_false_iff_ne.mpr c79
          have c79b1 : (a0_0 != 7) = true := bne_iff_ne.mpr c79
          obtain rfl := Option.some.inj H
          go_wp2
          go_ret
          exact ⟨rf_, (hb2_ HB.out GE143.out GE144.out)⟩
end Go.Proofs.YtcljnjnlafkieaaGreatDoorR.PPLN
