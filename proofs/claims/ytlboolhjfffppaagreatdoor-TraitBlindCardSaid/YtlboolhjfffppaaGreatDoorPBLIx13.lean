-- Written by this session's program (wip/tools/pr.py over the kit's print).
import Derived.Test.YtlboolhjfffppaaGreatDoorPh
import Derived.Test.YtlboolhjfffppaaGreatDoorPBLIx0
import Derived.Test.YtlboolhjfffppaaGreatDoorPBLIx3
import Derived.Test.YtlboolhjfffppaaGreatDoorPBLIx5
import Derived.Test.YtlboolhjfffppaaGreatDoorPBLIx12
namespace Go.Proofs.YtlboolhjfffppaaGreatDoor.PBLI
open Go.RowKit Go.Proofs.YtlboolhjfffppaaGreatDoorW.PrintWords Go.Proofs.YtlboolhjfffppaaGreatDoorW.PrintLast Go.Proofs.YtlboolhjfffppaaGreatDoorW.PrintMore
attribute [local go_sem] max2_int min2_int max_two min_two max_three min_three max_four min_four
set_option linter.unusedVariables false
set_option linter.unusedSimpArgs false
def traits_test.f (k : Nat) (a0_0 : Int) (a0_1 : Int) (a0_2 : ByteArray) (a0_3 : Int) (a0_4 : Int) (a0_5 : Int) (l1_0 : List ByteArray) (l1_1 : List ByteArray) (a1_2 : Int) (a1_3 : Int) (a1_4 : Int) : Option (Bool) := if a0_0 = 4 then ((slices_Contains_string_string.f k l1_0 a0_2).bind fun t218 => (some t218)) else (if a0_0 = 5 then ((slices_Contains_string_string.f k l1_1 a0_2).bind fun t219 => (some t219)) else (if a0_0 = 6 then ((traits_against.f k a1_2 a1_3 a0_3 a0_4 a0_5).bind fun t220 => (some t220)) else ((traits_against.f k a1_4 0 a0_3 a0_4 a0_5).bind fun t221 => (some t221))))
theorem traits_test.mono : ∀ a0 a1 a2 a3 a4 a5 a6 a7 a8 a9 a10 k, LeO (traits_test.f k a0 a1 a2 a3 a4 a5 a6 a7 a8 a9 a10) (traits_test.f (k + 1) a0 a1 a2 a3 a4 a5 a6 a7 a8 a9 a10) := by
 intro a0 a1 a2 a3 a4 a5 a6 a7 a8 a9 a10 k
 unfold traits_test.f
 repeat' first
   | (with_reducible exact slices_Contains_string_string.mono _ _ _)
   | (with_reducible exact traits_against.mono _ _ _ _ _ _)
   | (with_reducible exact LeO.refl _)
   | (with_reducible exact LeO.none _)
   | (with_reducible refine LeO.ite ?_ ?_)
   | (with_reducible refine LeO.bind ?_ (fun _ => ?_))
   | exact slices_Contains_string_string.mono _ _ _
   | exact traits_against.mono _ _ _ _ _ _
   | exact LeO.none _
   | refine LeO.ite ?_ ?_
   | refine LeO.bind ?_ (fun _ => ?_)
set_option maxHeartbeats 8000000 in
set_option maxRecDepth 100000 in
theorem traits_test.calls (k : Nat) (a0_0 : Int) (a0_1 : Int) (a0_2 : ByteArray) (a0_3 : Int) (a0_4 : Int) (a0_5 : Int) (A1_0 : Option Addr) (c1_0 : Nat) (l1_0 : List ByteArray) (A1_1 : Option Addr) (c1_1 : Nat) (l1_1 : List ByteArray) (a1_2 : Int) (a1_3 : Int) (a1_4 : Int) (r : Bool) (w : World) (hr1_0 : Kd.C Kd.string w A1_0 l1_0.length l1_0) (hc1_0 : l1_0.length ≤ c1_0) (hr1_1 : Kd.C Kd.string w A1_1 l1_1.length l1_1) (hc1_1 : l1_1.length ≤ c1_1) (h : traits_test.f k a0_0 a0_1 a0_2 a0_3 a0_4 a0_5 l1_0 l1_1 a1_2 a1_3 a1_4 = some r) :
  Calls Tryz.prog 19 #[.agg #[.int .i64 a0_0, .int .i64 a0_1, .string a0_2, .int .i64 a0_3, .int .i64 a0_4, .int .i64 a0_5], .agg #[.slice A1_0 l1_0.length c1_0, .slice A1_1 l1_1.length c1_1, .int .i64 a1_2, .int .i64 a1_3, .int .i64 a1_4]] w fun e w' => e = .returned (.bool r) ∧ Below w.heap.size w w' := by
 have hu44 := Tryz.underlying44
 have hu25 := Tryz.underlying25
 have hu42 := Tryz.underlying42
 have HR1_0 := Aside0.mk hr1_0
 have HC1_0 := Aside0.mk hc1_0
 clear hr1_0 hc1_0
 have HR1_1 := Aside0.mk hr1_1
 have HC1_1 := Aside0.mk hc1_1
 clear hr1_1 hc1_1
 have HB := Aside0.mk (Below.refl w.heap.size w)
 have H : (if a0_0 = 4 then ((slices_Contains_string_string.f k l1_0 a0_2).bind fun t218 => (some t218)) else (if a0_0 = 5 then ((slices_Contains_string_string.f k l1_1 a0_2).bind fun t219 => (some t219)) else (if a0_0 = 6 then ((traits_against.f k a1_2 a1_3 a0_3 a0_4 a0_5).bind fun t220 => (some t220)) else ((traits_against.f k a1_4 0 a0_3 a0_4 a0_5).bind fun t221 => (some t221))))) = some r := h
 clear h
 by_cases c3 : a0_0 = 4
 ·rw [if_pos c3] at H
  have c3b0 : (a0_0 == 4) = true := beq_iff_eq.mpr c3
  have c3b1 : (a0_0 != 4) = false := bne_eq_false_iff_eq.mpr c3
  clear c3
  replace H := Option.bind_eq_some_iff.mp H
  obtain ⟨t218, A40, H⟩ := H
  replace H : (some t218) = some r := H
  have A4 := Aside0.mk A40
  clear A40
  obtain rfl := Option.some.inj H
  go_enter Tryz.func19, Tryz.ntmps19
  go_wp2_with (first | ((with_reducible refine gate_dst (N := 2) rfl ?_); refine box_event ?hg (N := 2) ?hd (cs := #[.int .i64 a0_0, .int .i64 a0_1, .string a0_2, .int .i64 a0_3, .int .i64 a0_4, .int .i64 a0_5]) (t := 44) ?hr ?_; (case hd => rfl); (case hg => rfl); (case hr => first | (go_simp; done) | (go_simp; rfl)); intro gb216 hg w5 hbox hb; have n0_ := Aside0.mk (below_step (hb0_ HB.out) hb); have n1_ := Aside0.mk (hbox); have n2_ := Aside0.mk ((by rw [hg]; exact (below_size (hb0_ HB.out)) : w.heap.size ≤ gb216)); have n3_ := Aside0.mk ((by rw [hg]; exact (below_size (hb0_ HB.out)) : w.heap.size ≤ gb216)); clear HB; have HB := n0_; have BK216 := n1_; have GW216 := n2_; have GE216 := n3_; clear n0_ n1_ n2_ n3_; clear hb hbox hg) | ((with_reducible refine gate_dst (N := 3) rfl ?_); refine box_event ?hg (N := 3) ?hd (cs := #[.slice A1_0 l1_0.length c1_0, .slice A1_1 l1_1.length c1_1, .int .i64 a1_2, .int .i64 a1_3, .int .i64 a1_4]) (t := 25) ?hr ?_; (case hd => rfl); (case hg => rfl); (case hr => first | (go_simp; done) | (go_simp; rfl)); intro gb217 hg w6 hbox hb; have n0_ := Aside0.mk (blk_below (g := gb216) (o := .cells #[.int .i64 a0_0, .int .i64 a0_1, .string a0_2, .int .i64 a0_3, .int .i64 a0_4, .int .i64 a0_5] 44 (0, 0)) (ph_ BK216.out) hb); have n1_ := Aside0.mk (below_step (hb1_ HB.out GE216.out) hb); have n2_ := Aside0.mk (hbox); have n3_ := Aside0.mk ((by rw [hg]; exact (below_size (hb1_ HB.out GE216.out)) : w.heap.size ≤ gb217)); have n4_ := n3_; have n5_ := Aside0.mk ((by rw [hg]; exact Nat.ne_of_lt (blk_lt (g := gb216) (o := .cells #[.int .i64 a0_0, .int .i64 a0_1, .string a0_2, .int .i64 a0_3, .int .i64 a0_4, .int .i64 a0_5] 44 (0, 0)) (ph_ BK216.out)) : gb216 ≠ gb217)); have n6_ := Aside0.mk ((by rw [hg]; exact Nat.ne_of_gt (blk_lt (g := gb216) (o := .cells #[.int .i64 a0_0, .int .i64 a0_1, .string a0_2, .int .i64 a0_3, .int .i64 a0_4, .int .i64 a0_5] 44 (0, 0)) (ph_ BK216.out)) : gb217 ≠ gb216)); clear BK216; clear HB; have BK216 := n0_; have HB := n1_; have BK217 := n2_; have GW217 := n3_; have GE217 := n4_; have NB216_217 := n5_; have NB217_216 := n6_; clear n0_ n1_ n2_ n3_ n4_ n5_ n6_; clear hb hbox hg; have hnb7 := NB216_217.out; have hnc7 := NB217_216.out; obtain ⟨hcz8_0, hcz8_1, hcz8_2, hcz8_3, hcz8_4, hcz8_5, hfz8_0, hfz8_1, hfz8_2, hfz8_3, hfz8_4, hfz8_5⟩ := bx6 BK216.out; obtain ⟨hcz9_0, hcz9_1, hcz9_2, hcz9_3, hcz9_4, hfz9_0, hfz9_1, hfz9_2, hfz9_3, hfz9_4⟩ := bx5 BK217.out) | ((with_reducible refine gate_callee (f := 35) rfl ?_); refine goesL_ (some 13) rfl rfl Tryz.func35 (by kernel_rfl) rfl #[.slice A1_0 l1_0.length c1_0, .string a0_2] rfl (by (try simp only [List.map_toArray, List.map_cons, List.map_nil]); first | done | rfl | (simp only [List.length_drop, List.length_take]; rfl)) ?_; (with_reducible refine (slices_Contains_string_string.calls k _ _ l1_0 a0_2 t218 _ ?side1 ?side2 A4.out).mono ?_); (case side1 => repeat (first | exact (Kd.C_below HR1_0.out HB.out) | (with_reducible refine Kd.C_alloc ?_ _) | (with_reducible refine Kd.C_drewN ?_ _) | (with_reducible refine Kd.C_drew ?_))); (case side2 => exact HC1_0.out); rintro e w' ⟨rfl, ⟨nd, rfl⟩⟩; refine ⟨_, rfl, ?_⟩))
  go_ret
  exact ⟨rf_, (hb2_ HB.out GE216.out GE217.out)⟩
 ·rw [if_neg c3] at H
  have c3b0 : (a0_0 == 4) = false := beq_eq_false_iff_ne.mpr c3
  have c3b1 : (a0_0 != 4) = true := bne_iff_ne.mpr c3
  by_cases c10 : a0_0 = 5
  ·rw [if_pos c10] at H
   have c10b0 : (a0_0 == 5) = true := beq_iff_eq.mpr c10
   have c10b1 : (a0_0 != 5) = false := bne_eq_false_iff_eq.mpr c10
   clear c10
   replace H := Option.bind_eq_some_iff.mp H
   obtain ⟨t219, A110, H⟩ := H
   replace H : (some t219) = some r := H
   have A11 := Aside0.mk A110
   clear A110
   obtain rfl := Option.some.inj H
   go_enter Tryz.func19, Tryz.ntmps19
   go_wp2_with (first | ((with_reducible refine gate_dst (N := 2) rfl ?_); refine box_event ?hg (N := 2) ?hd (cs := #[.int .i64 a0_0, .int .i64 a0_1, .string a0_2, .int .i64 a0_3, .int .i64 a0_4, .int .i64 a0_5]) (t := 44) ?hr ?_; (case hd => rfl); (case hg => rfl); (case hr => first | (go_simp; done) | (go_simp; rfl)); intro gb216 hg w12 hbox hb; have n0_ := Aside0.mk (below_step (hb0_ HB.out) hb); have n1_ := Aside0.mk (hbox); have n2_ := Aside0.mk ((by rw [hg]; exact (below_size (hb0_ HB.out)) : w.heap.size ≤ gb216)); have n3_ := Aside0.mk ((by rw [hg]; exact (below_size (hb0_ HB.out)) : w.heap.size ≤ gb216)); clear HB; have HB := n0_; have BK216 := n1_; have GW216 := n2_; have GE216 := n3_; clear n0_ n1_ n2_ n3_; clear hb hbox hg) | ((with_reducible refine gate_dst (N := 3) rfl ?_); refine box_event ?hg (N := 3) ?hd (cs := #[.slice A1_0 l1_0.length c1_0, .slice A1_1 l1_1.length c1_1, .int .i64 a1_2, .int .i64 a1_3, .int .i64 a1_4]) (t := 25) ?hr ?_; (case hd => rfl); (case hg => rfl); (case hr => first | (go_simp; done) | (go_simp; rfl)); intro gb217 hg w13 hbox hb; have n0_ := Aside0.mk (blk_below (g := gb216) (o := .cells #[.int .i64 a0_0, .int .i64 a0_1, .string a0_2, .int .i64 a0_3, .int .i64 a0_4, .int .i64 a0_5] 44 (0, 0)) (ph_ BK216.out) hb); have n1_ := Aside0.mk (below_step (hb1_ HB.out GE216.out) hb); have n2_ := Aside0.mk (hbox); have n3_ := Aside0.mk ((by rw [hg]; exact (below_size (hb1_ HB.out GE216.out)) : w.heap.size ≤ gb217)); have n4_ := n3_; have n5_ := Aside0.mk ((by rw [hg]; exact Nat.ne_of_lt (blk_lt (g := gb216) (o := .cells #[.int .i64 a0_0, .int .i64 a0_1, .string a0_2, .int .i64 a0_3, .int .i64 a0_4, .int .i64 a0_5] 44 (0, 0)) (ph_ BK216.out)) : gb216 ≠ gb217)); have n6_ := Aside0.mk ((by rw [hg]; exact Nat.ne_of_gt (blk_lt (g := gb216) (o := .cells #[.int .i64 a0_0, .int .i64 a0_1, .string a0_2, .int .i64 a0_3, .int .i64 a0_4, .int .i64 a0_5] 44 (0, 0)) (ph_ BK216.out)) : gb217 ≠ gb216)); clear BK216; clear HB; have BK216 := n0_; have HB := n1_; have BK217 := n2_; have GW217 := n3_; have GE217 := n4_; have NB216_217 := n5_; have NB217_216 := n6_; clear n0_ n1_ n2_ n3_ n4_ n5_ n6_; clear hb hbox hg; have hnb14 := NB216_217.out; have hnc14 := NB217_216.out; obtain ⟨hcz15_0, hcz15_1, hcz15_2, hcz15_3, hcz15_4, hcz15_5, hfz15_0, hfz15_1, hfz15_2, hfz15_3, hfz15_4, hfz15_5⟩ := bx6 BK216.out; obtain ⟨hcz16_0, hcz16_1, hcz16_2, hcz16_3, hcz16_4, hfz16_0, hfz16_1, hfz16_2, hfz16_3, hfz16_4⟩ := bx5 BK217.out) | ((with_reducible refine gate_callee (f := 35) rfl ?_); refine goesL_ (some 20) rfl rfl Tryz.func35 (by kernel_rfl) rfl #[.slice A1_1 l1_1.length c1_1, .string a0_2] rfl (by (try simp only [List.map_toArray, List.map_cons, List.map_nil]); first | done | rfl | (simp only [List.length_drop, List.length_take]; rfl)) ?_; (with_reducible refine (slices_Contains_string_string.calls k _ _ l1_1 a0_2 t219 _ ?side1 ?side2 A11.out).mono ?_); (case side1 => repeat (first | exact (Kd.C_below HR1_1.out HB.out) | (with_reducible refine Kd.C_alloc ?_ _) | (with_reducible refine Kd.C_drewN ?_ _) | (with_reducible refine Kd.C_drew ?_))); (case side2 => exact HC1_1.out); rintro e w' ⟨rfl, ⟨nd, rfl⟩⟩; refine ⟨_, rfl, ?_⟩))
   go_ret
   exact ⟨rf_, (hb2_ HB.out GE216.out GE217.out)⟩
  ·rw [if_neg c10] at H
   have c10b0 : (a0_0 == 5) = false := beq_eq_false_iff_ne.mpr c10
   have c10b1 : (a0_0 != 5) = true := bne_iff_ne.mpr c10
   by_cases c17 : a0_0 = 6
   ·rw [if_pos c17] at H
    have c17b0 : (a0_0 == 6) = true := beq_iff_eq.mpr c17
    have c17b1 : (a0_0 != 6) = false := bne_eq_false_iff_eq.mpr c17
    clear c17
    replace H := Option.bind_eq_some_iff.mp H
    obtain ⟨t220, A180, H⟩ := H
    replace H : (some t220) = some r := H
    have A18 := Aside0.mk A180
    clear A180
    obtain rfl := Option.some.inj H
    go_enter Tryz.func19, Tryz.ntmps19
    go_wp2_with (first | ((with_reducible refine gate_dst (N := 2) rfl ?_); refine box_event ?hg (N := 2) ?hd (cs := #[.int .i64 a0_0, .int .i64 a0_1, .string a0_2, .int .i64 a0_3, .int .i64 a0_4, .int .i64 a0_5]) (t := 44) ?hr ?_; (case hd => rfl); (case hg => rfl); (case hr => first | (go_simp; done) | (go_simp; rfl)); intro gb216 hg w19 hbox hb; have n0_ := Aside0.mk (below_step (hb0_ HB.out) hb); have n1_ := Aside0.mk (hbox); have n2_ := Aside0.mk ((by rw [hg]; exact (below_size (hb0_ HB.out)) : w.heap.size ≤ gb216)); have n3_ := Aside0.mk ((by rw [hg]; exact (below_size (hb0_ HB.out)) : w.heap.size ≤ gb216)); clear HB; have HB := n0_; have BK216 := n1_; have GW216 := n2_; have GE216 := n3_; clear n0_ n1_ n2_ n3_; clear hb hbox hg) | ((with_reducible refine gate_dst (N := 3) rfl ?_); refine box_event ?hg (N := 3) ?hd (cs := #[.slice A1_0 l1_0.length c1_0, .slice A1_1 l1_1.length c1_1, .int .i64 a1_2, .int .i64 a1_3, .int .i64 a1_4]) (t := 25) ?hr ?_; (case hd => rfl); (case hg => rfl); (case hr => first | (go_simp; done) | (go_simp; rfl)); intro gb217 hg w20 hbox hb; have n0_ := Aside0.mk (blk_below (g := gb216) (o := .cells #[.int .i64 a0_0, .int .i64 a0_1, .string a0_2, .int .i64 a0_3, .int .i64 a0_4, .int .i64 a0_5] 44 (0, 0)) (ph_ BK216.out) hb); have n1_ := Aside0.mk (below_step (hb1_ HB.out GE216.out) hb); have n2_ := Aside0.mk (hbox); have n3_ := Aside0.mk ((by rw [hg]; exact (below_size (hb1_ HB.out GE216.out)) : w.heap.size ≤ gb217)); have n4_ := n3_; have n5_ := Aside0.mk ((by rw [hg]; exact Nat.ne_of_lt (blk_lt (g := gb216) (o := .cells #[.int .i64 a0_0, .int .i64 a0_1, .string a0_2, .int .i64 a0_3, .int .i64 a0_4, .int .i64 a0_5] 44 (0, 0)) (ph_ BK216.out)) : gb216 ≠ gb217)); have n6_ := Aside0.mk ((by rw [hg]; exact Nat.ne_of_gt (blk_lt (g := gb216) (o := .cells #[.int .i64 a0_0, .int .i64 a0_1, .string a0_2, .int .i64 a0_3, .int .i64 a0_4, .int .i64 a0_5] 44 (0, 0)) (ph_ BK216.out)) : gb217 ≠ gb216)); clear BK216; clear HB; have BK216 := n0_; have HB := n1_; have BK217 := n2_; have GW217 := n3_; have GE217 := n4_; have NB216_217 := n5_; have NB217_216 := n6_; clear n0_ n1_ n2_ n3_ n4_ n5_ n6_; clear hb hbox hg; have hnb21 := NB216_217.out; have hnc21 := NB217_216.out; obtain ⟨hcz22_0, hcz22_1, hcz22_2, hcz22_3, hcz22_4, hcz22_5, hfz22_0, hfz22_1, hfz22_2, hfz22_3, hfz22_4, hfz22_5⟩ := bx6 BK216.out; obtain ⟨hcz23_0, hcz23_1, hcz23_2, hcz23_3, hcz23_4, hfz23_0, hfz23_1, hfz23_2, hfz23_3, hfz23_4⟩ := bx5 BK217.out) | ((with_reducible refine gate_callee (f := 36) rfl ?_); refine goesL_ (some 31) rfl rfl Tryz.func36 (by kernel_rfl) rfl #[.int .i64 a1_2, .int .i64 a1_3, .int .i64 a0_3, .agg #[.int .i64 a0_4, .int .i64 a0_5]] rfl (by (try simp only [List.map_toArray, List.map_cons, List.map_nil]); first | done | rfl | (simp only [List.length_drop, List.length_take]; rfl)) ?_; (with_reducible refine (traits_against.calls k a1_2 a1_3 a0_3 a0_4 a0_5 t220 _ A18.out).mono ?_); rintro e w24 ⟨rfl, hb⟩; refine ⟨_, rfl, ?_⟩; have n0_ := Aside0.mk (blk_below (g := gb216) (o := .cells #[.int .i64 a0_0, .int .i64 a0_1, .string a0_2, .int .i64 a0_3, .int .i64 a0_4, .int .i64 a0_5] 44 (0, 0)) (ph_ BK216.out) hb); have n1_ := Aside0.mk (blk_below (g := gb217) (o := .cells #[.slice A1_0 l1_0.length c1_0, .slice A1_1 l1_1.length c1_1, .int .i64 a1_2, .int .i64 a1_3, .int .i64 a1_4] 25 (0, 0)) (ph_ BK217.out) hb); have n2_ := Aside0.mk (below_step (hb2_ HB.out GE216.out GE217.out) hb); clear BK216; clear BK217; clear HB; have BK216 := n0_; have BK217 := n1_; have HB := n2_; clear n0_ n1_ n2_; (try clear hb); (try clear hb2); (try clear hk); (try clear hi)))
    go_ret
    exact ⟨rf_, (hb2_ HB.out GE216.out GE217.out)⟩
   ·rw [if_neg c17] at H
    have c17b0 : (a0_0 == 6) = false := beq_eq_false_iff_ne.mpr c17
    have c17b1 : (a0_0 != 6) = true := bne_iff_ne.mpr c17
    replace H := Option.bind_eq_some_iff.mp H
    obtain ⟨t221, A250, H⟩ := H
    replace H : (some t221) = some r := H
    have A25 := Aside0.mk A250
    clear A250
    obtain rfl := Option.some.inj H
    go_enter Tryz.func19, Tryz.ntmps19
    go_wp2_with (first | ((with_reducible refine gate_dst (N := 2) rfl ?_); refine box_event ?hg (N := 2) ?hd (cs := #[.int .i64 a0_0, .int .i64 a0_1, .string a0_2, .int .i64 a0_3, .int .i64 a0_4, .int .i64 a0_5]) (t := 44) ?hr ?_; (case hd => rfl); (case hg => rfl); (case hr => first | (go_simp; done) | (go_simp; rfl)); intro gb216 hg w26 hbox hb; have n0_ := Aside0.mk (below_step (hb0_ HB.out) hb); have n1_ := Aside0.mk (hbox); have n2_ := Aside0.mk ((by rw [hg]; exact (below_size (hb0_ HB.out)) : w.heap.size ≤ gb216)); have n3_ := Aside0.mk ((by rw [hg]; exact (below_size (hb0_ HB.out)) : w.heap.size ≤ gb216)); clear HB; have HB := n0_; have BK216 := n1_; have GW216 := n2_; have GE216 := n3_; clear n0_ n1_ n2_ n3_; clear hb hbox hg) | ((with_reducible refine gate_dst (N := 3) rfl ?_); refine box_event ?hg (N := 3) ?hd (cs := #[.slice A1_0 l1_0.length c1_0, .slice A1_1 l1_1.length c1_1, .int .i64 a1_2, .int .i64 a1_3, .int .i64 a1_4]) (t := 25) ?hr ?_; (case hd => rfl); (case hg => rfl); (case hr => first | (go_simp; done) | (go_simp; rfl)); intro gb217 hg w27 hbox hb; have n0_ := Aside0.mk (blk_below (g := gb216) (o := .cells #[.int .i64 a0_0, .int .i64 a0_1, .string a0_2, .int .i64 a0_3, .int .i64 a0_4, .int .i64 a0_5] 44 (0, 0)) (ph_ BK216.out) hb); have n1_ := Aside0.mk (below_step (hb1_ HB.out GE216.out) hb); have n2_ := Aside0.mk (hbox); have n3_ := Aside0.mk ((by rw [hg]; exact (below_size (hb1_ HB.out GE216.out)) : w.heap.size ≤ gb217)); have n4_ := n3_; have n5_ := Aside0.mk ((by rw [hg]; exact Nat.ne_of_lt (blk_lt (g := gb216) (o := .cells #[.int .i64 a0_0, .int .i64 a0_1, .string a0_2, .int .i64 a0_3, .int .i64 a0_4, .int .i64 a0_5] 44 (0, 0)) (ph_ BK216.out)) : gb216 ≠ gb217)); have n6_ := Aside0.mk ((by rw [hg]; exact Nat.ne_of_gt (blk_lt (g := gb216) (o := .cells #[.int .i64 a0_0, .int .i64 a0_1, .string a0_2, .int .i64 a0_3, .int .i64 a0_4, .int .i64 a0_5] 44 (0, 0)) (ph_ BK216.out)) : gb217 ≠ gb216)); clear BK216; clear HB; have BK216 := n0_; have HB := n1_; have BK217 := n2_; have GW217 := n3_; have GE217 := n4_; have NB216_217 := n5_; have NB217_216 := n6_; clear n0_ n1_ n2_ n3_ n4_ n5_ n6_; clear hb hbox hg; have hnb28 := NB216_217.out; have hnc28 := NB217_216.out; obtain ⟨hcz29_0, hcz29_1, hcz29_2, hcz29_3, hcz29_4, hcz29_5, hfz29_0, hfz29_1, hfz29_2, hfz29_3, hfz29_4, hfz29_5⟩ := bx6 BK216.out; obtain ⟨hcz30_0, hcz30_1, hcz30_2, hcz30_3, hcz30_4, hfz30_0, hfz30_1, hfz30_2, hfz30_3, hfz30_4⟩ := bx5 BK217.out) | ((with_reducible refine gate_callee (f := 36) rfl ?_); refine goesL_ (some 38) rfl rfl Tryz.func36 (by kernel_rfl) rfl #[.int .i64 a1_4, .int .i64 0, .int .i64 a0_3, .agg #[.int .i64 a0_4, .int .i64 a0_5]] rfl (by (try simp only [List.map_toArray, List.map_cons, List.map_nil]); first | done | rfl | (simp only [List.length_drop, List.length_take]; rfl)) ?_; (with_reducible refine (traits_against.calls k a1_4 0 a0_3 a0_4 a0_5 t221 _ A25.out).mono ?_); rintro e w31 ⟨rfl, hb⟩; refine ⟨_, rfl, ?_⟩; have n0_ := Aside0.mk (blk_below (g := gb216) (o := .cells #[.int .i64 a0_0, .int .i64 a0_1, .string a0_2, .int .i64 a0_3, .int .i64 a0_4, .int .i64 a0_5] 44 (0, 0)) (ph_ BK216.out) hb); have n1_ := Aside0.mk (blk_below (g := gb217) (o := .cells #[.slice A1_0 l1_0.length c1_0, .slice A1_1 l1_1.length c1_1, .int .i64 a1_2, .int .i64 a1_3, .int .i64 a1_4] 25 (0, 0)) (ph_ BK217.out) hb); have n2_ := Aside0.mk (below_step (hb2_ HB.out GE216.out GE217.out) hb); clear BK216; clear BK217; clear HB; have BK216 := n0_; have BK217 := n1_; have HB := n2_; clear n0_ n1_ n2_; (try clear hb); (try clear hb2); (try clear hk); (try clear hi)))
    go_ret
    exact ⟨rf_, (hb2_ HB.out GE216.out GE217.out)⟩
def kidsH (T : Nat → Option (Bool × Nat)) : Nat → Nat → Nat → Option (Nat × Nat)
 | 0, s, i => some (s, i)
 | m + 1, s, i => (T i).bind fun x => kidsH T m (if x.1 = true then s + 1 else s) x.2
def holdsF (T : S44 → Option Bool) (l : List S44) : Nat → Nat → Option (Bool × Nat)
 | 0, _ => none
 | d + 1, i =>
  if i < l.length then
   if (rd_T44 l (i : Int)).f0 = 1 ∨ (rd_T44 l (i : Int)).f0 = 2 then
    (kidsH (holdsF T l d) (rd_T44 l (i : Int)).f1.toNat 0 (i + 1)).map fun x => (decide ((x.1 : Int) = (rd_T44 l (i : Int)).f1) || (decide ((rd_T44 l (i : Int)).f0 = 1) && decide (0 < (x.1 : Int))), x.2)
   else if (rd_T44 l (i : Int)).f0 = 3 then (holdsF T l d (i + 1)).map fun x => (!x.1, x.2)
   else (T (rd_T44 l (i : Int))).map fun b => (b, i + 1)
  else none
def testF (K : Nat) (lB lL : List ByteArray) (fa fd fq : Int) (m : S44) : Option Bool := traits_test.f K m.f0 m.f1 m.f2 m.f3 m.f4.f0 m.f4.f1 lB lL fa fd fq
def traits_Holds.f (k : Nat) (l0 : List S44) (lB lL : List ByteArray) (fa fd fq : Int) : Option (Bool × Int) :=
 (traits_Check.f k l0).bind fun e => if e = 0 then (traits_Fit.f k lB lL fa fd fq).bind fun g => if g = 0 then (if l0.length = 0 then some (true, 0) else (holdsF (testF k lB lL fa fd fq) l0 20 0).map fun x => (x.1, 0)) else some (false, g) else some (false, e)
theorem kidsH_mono {T T' : Nat → Option (Bool × Nat)} (h : ∀ i, LeO (T i) (T' i)) : ∀ m s i, LeO (kidsH T m s i) (kidsH T' m s i)
 | 0, _, _ => LeO.refl _
 | m + 1, s, i => fun r hr => by
  rw [kidsH] at hr ⊢
  obtain ⟨⟨b, i2⟩, h1, h2⟩ := Option.bind_eq_some_iff.mp hr
  rw [h i _ h1, Option.bind_some]
  exact kidsH_mono h m _ i2 r h2
theorem holdsF_mono {T T' : S44 → Option Bool} (h : ∀ m, LeO (T m) (T' m)) (l : List S44) : ∀ (d i : Nat), LeO (holdsF T l d i) (holdsF T' l d i)
 | 0, _ => fun r hr => by simp [holdsF] at hr
 | d + 1, i => fun r hr => by
  rw [holdsF] at hr ⊢
  by_cases c1 : i < l.length
  ·rw [if_pos c1] at hr ⊢
   by_cases c2 : (rd_T44 l (i : Int)).f0 = 1 ∨ (rd_T44 l (i : Int)).f0 = 2
   ·rw [if_pos c2] at hr ⊢
    obtain ⟨x, h1, h2⟩ := Option.map_eq_some_iff.mp hr
    exact Option.map_eq_some_iff.mpr ⟨x, kidsH_mono (holdsF_mono h l d) _ _ _ x h1, h2⟩
   ·rw [if_neg c2] at hr ⊢
    by_cases c3 : (rd_T44 l (i : Int)).f0 = 3
    ·rw [if_pos c3] at hr ⊢
     obtain ⟨x, h1, h2⟩ := Option.map_eq_some_iff.mp hr
     exact Option.map_eq_some_iff.mpr ⟨x, holdsF_mono h l d _ x h1, h2⟩
    ·rw [if_neg c3] at hr ⊢
     obtain ⟨x, h1, h2⟩ := Option.map_eq_some_iff.mp hr
     exact Option.map_eq_some_iff.mpr ⟨x, h _ x h1, h2⟩
  ·rw [if_neg c1] at hr; cases hr
theorem traits_Holds.mono : ∀ l0 lB lL fa fd fq k, LeO (traits_Holds.f k l0 lB lL fa fd fq) (traits_Holds.f (k + 1) l0 lB lL fa fd fq) := fun l0 lB lL fa fd fq k r hr => by
 rw [traits_Holds.f] at hr ⊢
 obtain ⟨e, h1, h2⟩ := Option.bind_eq_some_iff.mp hr
 rw [traits_Check.mono l0 k _ h1, Option.bind_some]
 by_cases c1 : e = 0
 ·rw [if_pos c1] at h2 ⊢
  obtain ⟨g, h3, h4⟩ := Option.bind_eq_some_iff.mp h2
  rw [traits_Fit.mono _ _ _ _ _ k _ h3, Option.bind_some]
  by_cases c2 : g = 0
  ·rw [if_pos c2] at h4 ⊢
   by_cases c3 : l0.length = 0
   ·rw [if_pos c3] at h4 ⊢; exact h4
   ·rw [if_neg c3] at h4 ⊢
    obtain ⟨x, h5, h6⟩ := Option.map_eq_some_iff.mp h4
    exact Option.map_eq_some_iff.mpr ⟨x, holdsF_mono (fun m => traits_test.mono _ _ _ _ _ _ _ _ _ _ _ k) l0 20 0 x h5, h6⟩
  ·rw [if_neg c2] at h4 ⊢; exact h4
 ·rw [if_neg c1] at h2 ⊢; exact h2
theorem kidsH_lt (T : Nat → Option (Bool × Nat)) (hT : ∀ i r j, T i = some (r, j) → i < j) : ∀ m s i r j, kidsH T m s i = some (r, j) → i ≤ j
 | 0, s, i, r, j, h => by
  obtain ⟨_, rfl⟩ := Prod.mk.inj (Option.some.inj h); exact Nat.le_refl _
 | m + 1, s, i, r, j, h => by
  rw [kidsH] at h
  obtain ⟨⟨b, i2⟩, h1, h⟩ := Option.bind_eq_some_iff.mp h
  have := hT _ _ _ h1
  exact Nat.le_trans (Nat.le_of_lt this) (kidsH_lt T hT m _ i2 r j h)
theorem holdsF_lt (T : S44 → Option Bool) (l : List S44) : ∀ (d i : Nat) (r : Bool) (j : Nat), holdsF T l d i = some (r, j) → i < j
 | 0, _, _, _, h => by simp [holdsF] at h
 | d + 1, i, r, j, h => by
  rw [holdsF] at h
  split at h
  ·split at h
   ·obtain ⟨x, h1, h2⟩ := Option.map_eq_some_iff.mp h
    obtain ⟨_, rfl⟩ := Prod.mk.inj h2
    have := kidsH_lt _ (holdsF_lt T l d) _ _ _ _ _ h1; omega
   ·split at h
    ·obtain ⟨x, h1, h2⟩ := Option.map_eq_some_iff.mp h
     obtain ⟨_, rfl⟩ := Prod.mk.inj h2
     have := holdsF_lt T l d _ _ _ h1; omega
    ·obtain ⟨x, h1, h2⟩ := Option.map_eq_some_iff.mp h
     obtain ⟨_, rfl⟩ := Prod.mk.inj h2
     omega
  ·cases h
structure TH (w : World) (n a t fb : Nat) (A0 : Option Addr) (len c0 : Nat) (F : Array Value) (i : Nat) : Prop where
 at_ : w.heap[a]? = some (.cells #[.int .i64 (i : Int)] 3 (0, 0))
 nodes : w.heap[n]? = some (.cells #[.slice A0 len c0] 22 (0, 0))
 facts : w.heap[fb]? = some (.cells F 25 (0, 0))
 tree : w.heap[t]? = some (.cells #[.func (.func 18) #[] #[.pointer (some ⟨n, 0, none⟩), .pointer (some ⟨a, 0, none⟩), .pointer (some ⟨t, 0, none⟩), .pointer (some ⟨fb, 0, none⟩)]] 33 (0, 0))
theorem TH.na {w : World} {n a t fb : Nat} {A0 : Option Addr} {len c0 i : Nat} {F : Array Value} (h : TH w n a t fb A0 len c0 F i) : n ≠ a := fun e => by
 have h1 := h.nodes; rw [e, h.at_] at h1; simp at h1
theorem TH.ta {w : World} {n a t fb : Nat} {A0 : Option Addr} {len c0 i : Nat} {F : Array Value} (h : TH w n a t fb A0 len c0 F i) : t ≠ a := fun e => by
 have h1 := h.tree; rw [e, h.at_] at h1; simp at h1
theorem TH.fa {w : World} {n a t fb : Nat} {A0 : Option Addr} {len c0 i : Nat} {F : Array Value} (h : TH w n a t fb A0 len c0 F i) : fb ≠ a := fun e => by
 have h1 := h.facts; rw [e, h.at_] at h1; simp at h1
theorem TH.on {w w' : World} {n a t fb : Nat} {A0 : Option Addr} {len c0 i i' : Nat} {F : Array Value} (h : TH w n a t fb A0 len c0 F i) (hg : w.grownBy w' (some a)) (ha : w'.heap[a]? = some (.cells #[.int .i64 (i' : Int)] 3 (0, 0))) : TH w' n a t fb A0 len c0 F i' :=
 ⟨ha, (hg.block n (lt_of_block h.nodes) (by have := h.na; simpa using this)).trans h.nodes, (hg.block fb (lt_of_block h.facts) (by have := h.fa; simpa using this)).trans h.facts, (hg.block t (lt_of_block h.tree) (by have := h.ta; simpa using this)).trans h.tree⟩
set_option maxRecDepth 100000 in
set_option maxHeartbeats 4000000 in
theorem holds_calls (K : Nat) (w0 : World) (l : List S44) (A0 : Option Addr) (c0 : Nat) (hC : Kd.C k44 w0 A0 l.length l) (hl : l.length ≤ 64) (lB lL : List ByteArray) (AB AL : Option Addr) (cB cL : Nat) (hCB : Kd.C Kd.string w0 AB lB.length lB) (hcB : lB.length ≤ cB) (hCL : Kd.C Kd.string w0 AL lL.length lL) (hcL : lL.length ≤ cL) (fa fd fq : Int) (n a t fb : Nat) (ha : w0.heap.size ≤ a) :
  ∀ (d : Nat) (i : Nat) (b : Bool) (j : Nat) (w : World), i ≤ l.length → holdsF (testF K lB lL fa fd fq) l d i = some (b, j) → Below w0.heap.size w0 w → TH w n a t fb A0 l.length c0 #[.slice AB lB.length cB, .slice AL lL.length cL, .int .i64 fa, .int .i64 fd, .int .i64 fq] i →
   Calls Tryz.prog 18 #[.pointer (some ⟨n, 0, none⟩), .pointer (some ⟨a, 0, none⟩), .pointer (some ⟨t, 0, none⟩), .pointer (some ⟨fb, 0, none⟩)] w fun e w' => e = .returned (.bool b) ∧ w.grownBy w' (some a) ∧ j ≤ l.length ∧ w'.heap[a]? = some (.cells #[.int .i64 (j : Int)] 3 (0, 0))
 | 0, _, _, _, _, _, h, _, _ => by simp [holdsF] at h
 | d + 1, i, b, j, w, hi, h, hb, hT => by
  have ih := holds_calls K w0 l A0 c0 hC hl lB lL AB AL cB cL hCB hcB hCL hcL fa fd fq n a t fb ha d
  have hcA := cell_of_one hT.at_
  have hfA := free_of_one hT.at_
  have hcN := cell_of_one hT.nodes
  have hltA := lt_of_block hT.at_
  have hcA1 : ∀ o, (w.alloc o).cell? ⟨a, 0, none⟩ = some (.int .i64 (i : Int)) := fun o => (((Below.refl w.heap.size w).alloc (Nat.le_refl _) o).cell hltA).trans hcA
  have hfA1 : ∀ o, (w.alloc o).frozen? ⟨a, 0, none⟩ = false := fun o => (((Below.refl w.heap.size w).alloc (Nat.le_refl _) o).frozen hltA).trans hfA
  have hne1 : ¬ a = w.heap.size := by omega
  have hne2 : ¬ w.heap.size = a := by omega
  rw [holdsF] at h
  by_cases c1 : i < l.length
  ·rw [if_pos c1] at h
   have hi64 : (i : Int) < 64 := by omega
   have hi0 : 0 ≤ (i : Int) := by omega
   have hiz : (i : Int) < (l.length : Int) := by omega
   obtain ⟨ad, rfl, x0, x1, x2, x3, x4, x5⟩ := at_T44 (Kd.C_below hC hb) (i : Int) hi0 hiz
   obtain ⟨m, hm⟩ : ∃ m, rd_T44 l (i : Int) = m := ⟨_, rfl⟩
   rw [hm] at x0 x1 x2 x3 x4 x5 h
   simp only [Int.toNat_natCast] at x0 x1 x2 x3 x4 x5
   have hafter := fun (w' : World) (v : Value) (o : Obj) => after_sa (w' := w') (v := v) (o := o) hT.at_
   have hbelow := below_sp hb ha
   have hTon := fun (w' : World) (i' : Nat) => hT.on (w' := w') (i' := i')
   obtain ⟨hgr1, hT1⟩ : w.grownBy ((w.setCell ⟨a, 0, none⟩ (.int .i64 ((i : Int) + 1))).alloc (.cells #[.int .i64 m.f0, .int .i64 m.f1, .string m.f2, .int .i64 m.f3, .int .i64 m.f4.f0, .int .i64 m.f4.f1] 44)) (some a) ∧ TH ((w.setCell ⟨a, 0, none⟩ (.int .i64 ((i : Int) + 1))).alloc (.cells #[.int .i64 m.f0, .int .i64 m.f1, .string m.f2, .int .i64 m.f3, .int .i64 m.f4.f0, .int .i64 m.f4.f1] 44)) n a t fb (some ad) l.length c0 #[.slice AB lB.length cB, .slice AL lL.length cL, .int .i64 fa, .int .i64 fd, .int .i64 fq] (i + 1) := by
    obtain ⟨q1, q2, q3⟩ := hafter _ (.int .i64 ((i : Int) + 1)) (.cells #[.int .i64 m.f0, .int .i64 m.f1, .string m.f2, .int .i64 m.f3, .int .i64 m.f4.f0, .int .i64 m.f4.f1] 44) (Below.refl _ _)
    exact ⟨q1, hTon _ _ q1 (by simpa using q2)⟩
   have hcT1 := cell_of_one hT1.tree
   by_cases c2 : m.f0 = 1 ∨ m.f0 = 2
   ·rw [if_pos c2] at h
    obtain ⟨⟨s, j'⟩, hk, h⟩ := Option.map_eq_some_iff.mp h
    obtain ⟨hv, hj⟩ := Prod.mk.inj h
    have hj : j' = j := hj
    subst hj
    clear h
    rcases c2 with c2 | c2
    ·have e1 : (m.f0 == 1) = true := by rw [c2]; rfl
     have e1' : (1 == m.f0) = true := by rw [c2]; rfl
     have e2 : (m.f0 == 2) = false := by rw [c2]; rfl
     have e2' : (2 == m.f0) = false := by rw [c2]; rfl
     have hfin : (decide ((s : Int) = m.f1) || (true && decide (0 < (s : Int)))) = b := by
      have h2 : (decide ((s : Int) = m.f1) || (decide (m.f0 = 1) && decide (0 < (s : Int)))) = b := hv
      rw [c2] at h2; exact h2
     clear hv c2
     go_enter Tryz.func18, Tryz.ntmps18
     go_wp2
     go_loopw [6, 20] (fun vs v wr => ∃ (q s' i' : Nat), v = .int .i64 q ∧ vs = .int .i64 s' ∧ s' ≤ q ∧ q ≤ m.f1.toNat ∧ q + i + 1 ≤ i' ∧ i' ≤ l.length ∧ kidsH (holdsF (testF K lB lL fa fd fq) l d) (m.f1.toNat - q) s' i' = some (s, j') ∧ w.grownBy wr (some a) ∧ wr.heap[a]? = some (.cells #[.int .i64 (i' : Int)] 3 (0, 0)) ∧ wr.heap[w.heap.size]? = some (.cells #[.int .i64 m.f0, .int .i64 m.f1, .string m.f2, .int .i64 m.f3, .int .i64 m.f4.f0, .int .i64 m.f4.f1] 44 (0, 0)))
      (fun _ v _ => m.f1.toNat - (intOf v).toNat)
     case atStart =>
      refine ⟨0, 0, i + 1, rfl, rfl, Nat.le_refl _, Nat.zero_le _, by omega, by omega, hk, hgr1, hT1.at_, ?_⟩
      exact (hafter _ (.int .i64 ((i : Int) + 1)) (.cells #[.int .i64 m.f0, .int .i64 m.f1, .string m.f2, .int .i64 m.f3, .int .i64 m.f4.f0, .int .i64 m.f4.f1] 44) (Below.refl _ _)).2.2
     case round =>
      obtain ⟨q, s', i', rfl, rfl, hsq, hq, hqi, hi', hk, hg, hA', hS'⟩ := hrel
      clear hcA hfA hcN hcA1 hfA1 hne1 hne2 x0 x1 x2 x3 x4 x5 hcT1
      have hq64 : (q : Int) < 64 := by omega
      by_cases c5 : (q : Int) < m.f1
      ·rw [show m.f1.toNat - q = (m.f1.toNat - (q + 1)) + 1 from by omega, kidsH] at hk
       obtain ⟨⟨b2, i2⟩, hk1, hk⟩ := Option.bind_eq_some_iff.mp hk
       have hlt2 := holdsF_lt (testF K lB lL fa fd fq) l d i' b2 i2 hk1
       have hT' := hTon wr i' hg hA'
       have hbr : Below w0.heap.size w0 wr := hb.grown hg hb.size (fun k hk => by cases hk; exact ha)
       have hcT' := cell_of_one hT'.tree
       cases b2 with
       | true =>
        have HK := Lib.hid (show kidsH (holdsF (testF K lB lL fa fd fq) l d) (m.f1.toNat - (q + 1)) (s' + 1) i2 = some (s, j') from hk)
        clear hk
        go_wp2_with (go_at_call 18; go_must (refine (ih i' _ _ wr hi' hk1 hbr hT').mono ?_; rintro e w2 ⟨rfl, hg2, hj2, hA2⟩))
        go_roundw
        case rel => exact ⟨q + 1, s' + 1, i2, by go_num, by go_num, by omega, by omega, by omega, hj2, HK.out, hg.trans hg2, hA2, (hg2.block w.heap.size (lt_of_block hS') (by simp; omega)).trans hS'⟩
        case measure => simp [intOf]; omega
       | false =>
        have HK := Lib.hid (show kidsH (holdsF (testF K lB lL fa fd fq) l d) (m.f1.toNat - (q + 1)) s' i2 = some (s, j') from hk)
        clear hk
        go_wp2_with (go_at_call 18; go_must (refine (ih i' _ _ wr hi' hk1 hbr hT').mono ?_; rintro e w2 ⟨rfl, hg2, hj2, hA2⟩))
        go_roundw
        case rel => exact ⟨q + 1, s', i2, by go_num, rfl, by omega, by omega, by omega, hj2, HK.out, hg.trans hg2, hA2, (hg2.block w.heap.size (lt_of_block hS') (by simp; omega)).trans hS'⟩
        case measure => simp [intOf]; omega
      ·rw [show m.f1.toNat - q = 0 from by omega, kidsH] at hk
       obtain ⟨rfl, rfl⟩ := Prod.mk.inj (Option.some.inj hk)
       have hc0 : wr.cell? ⟨w.heap.size, 0, none⟩ = some (.int .i64 m.f0) := (Joins.cell_of_block hS' 0).trans rfl
       have hc1 : wr.cell? ⟨w.heap.size, 1, none⟩ = some (.int .i64 m.f1) := (Joins.cell_of_block hS' 1).trans rfl
       by_cases g1 : (s' : Int) = m.f1
       ·have g1b : ((s' : Int) == m.f1) = true := beq_iff_eq.2 g1
        have hbt : true = b := by rw [← hfin, decide_eq_true g1, Bool.true_or]
        have HB := Lib.hid hbt
        clear hfin hbt g1
        go_wp2
        go_ret
        exact ⟨by rw [← HB.out]; first | rfl | simp, hg, by first | exact ⟨hi', hA'⟩ | exact hA'⟩
       ·have g1b : ((s' : Int) == m.f1) = false := beq_eq_false_iff_ne.2 g1
        have hbt : (true && decide (0 < (s' : Int))) = b := by rw [← hfin, decide_eq_false g1, Bool.false_or]
        have HB := Lib.hid hbt
        clear hfin hbt g1
        go_wp2
        go_ret
        exact ⟨by rw [← HB.out]; first | rfl | simp, hg, by first | exact ⟨hi', hA'⟩ | exact hA'⟩
    ·have e1 : (m.f0 == 1) = false := by rw [c2]; rfl
     have e1' : (1 == m.f0) = false := by rw [c2]; rfl
     have e2 : (m.f0 == 2) = true := by rw [c2]; rfl
     have e2' : (2 == m.f0) = true := by rw [c2]; rfl
     have hfin : (decide ((s : Int) = m.f1) || (false && decide (0 < (s : Int)))) = b := by
      have h2 : (decide ((s : Int) = m.f1) || (decide (m.f0 = 1) && decide (0 < (s : Int)))) = b := hv
      rw [c2] at h2; exact h2
     clear hv c2
     go_enter Tryz.func18, Tryz.ntmps18
     go_wp2
     go_loopw [6, 20] (fun vs v wr => ∃ (q s' i' : Nat), v = .int .i64 q ∧ vs = .int .i64 s' ∧ s' ≤ q ∧ q ≤ m.f1.toNat ∧ q + i + 1 ≤ i' ∧ i' ≤ l.length ∧ kidsH (holdsF (testF K lB lL fa fd fq) l d) (m.f1.toNat - q) s' i' = some (s, j') ∧ w.grownBy wr (some a) ∧ wr.heap[a]? = some (.cells #[.int .i64 (i' : Int)] 3 (0, 0)) ∧ wr.heap[w.heap.size]? = some (.cells #[.int .i64 m.f0, .int .i64 m.f1, .string m.f2, .int .i64 m.f3, .int .i64 m.f4.f0, .int .i64 m.f4.f1] 44 (0, 0)))
      (fun _ v _ => m.f1.toNat - (intOf v).toNat)
     case atStart =>
      refine ⟨0, 0, i + 1, rfl, rfl, Nat.le_refl _, Nat.zero_le _, by omega, by omega, hk, hgr1, hT1.at_, ?_⟩
      exact (hafter _ (.int .i64 ((i : Int) + 1)) (.cells #[.int .i64 m.f0, .int .i64 m.f1, .string m.f2, .int .i64 m.f3, .int .i64 m.f4.f0, .int .i64 m.f4.f1] 44) (Below.refl _ _)).2.2
     case round =>
      obtain ⟨q, s', i', rfl, rfl, hsq, hq, hqi, hi', hk, hg, hA', hS'⟩ := hrel
      clear hcA hfA hcN hcA1 hfA1 hne1 hne2 x0 x1 x2 x3 x4 x5 hcT1
      have hq64 : (q : Int) < 64 := by omega
      by_cases c5 : (q : Int) < m.f1
      ·rw [show m.f1.toNat - q = (m.f1.toNat - (q + 1)) + 1 from by omega, kidsH] at hk
       obtain ⟨⟨b2, i2⟩, hk1, hk⟩ := Option.bind_eq_some_iff.mp hk
       have hlt2 := holdsF_lt (testF K lB lL fa fd fq) l d i' b2 i2 hk1
       have hT' := hTon wr i' hg hA'
       have hbr : Below w0.heap.size w0 wr := hb.grown hg hb.size (fun k hk => by cases hk; exact ha)
       have hcT' := cell_of_one hT'.tree
       cases b2 with
       | true =>
        have HK := Lib.hid (show kidsH (holdsF (testF K lB lL fa fd fq) l d) (m.f1.toNat - (q + 1)) (s' + 1) i2 = some (s, j') from hk)
        clear hk
        go_wp2_with (go_at_call 18; go_must (refine (ih i' _ _ wr hi' hk1 hbr hT').mono ?_; rintro e w2 ⟨rfl, hg2, hj2, hA2⟩))
        go_roundw
        case rel => exact ⟨q + 1, s' + 1, i2, by go_num, by go_num, by omega, by omega, by omega, hj2, HK.out, hg.trans hg2, hA2, (hg2.block w.heap.size (lt_of_block hS') (by simp; omega)).trans hS'⟩
        case measure => simp [intOf]; omega
       | false =>
        have HK := Lib.hid (show kidsH (holdsF (testF K lB lL fa fd fq) l d) (m.f1.toNat - (q + 1)) s' i2 = some (s, j') from hk)
        clear hk
        go_wp2_with (go_at_call 18; go_must (refine (ih i' _ _ wr hi' hk1 hbr hT').mono ?_; rintro e w2 ⟨rfl, hg2, hj2, hA2⟩))
        go_roundw
        case rel => exact ⟨q + 1, s', i2, by go_num, rfl, by omega, by omega, by omega, hj2, HK.out, hg.trans hg2, hA2, (hg2.block w.heap.size (lt_of_block hS') (by simp; omega)).trans hS'⟩
        case measure => simp [intOf]; omega
      ·rw [show m.f1.toNat - q = 0 from by omega, kidsH] at hk
       obtain ⟨rfl, rfl⟩ := Prod.mk.inj (Option.some.inj hk)
       have hc0 : wr.cell? ⟨w.heap.size, 0, none⟩ = some (.int .i64 m.f0) := (Joins.cell_of_block hS' 0).trans rfl
       have hc1 : wr.cell? ⟨w.heap.size, 1, none⟩ = some (.int .i64 m.f1) := (Joins.cell_of_block hS' 1).trans rfl
       by_cases g1 : (s' : Int) = m.f1
       ·have g1b : ((s' : Int) == m.f1) = true := beq_iff_eq.2 g1
        have hbt : true = b := by rw [← hfin, decide_eq_true g1, Bool.true_or]
        have HB := Lib.hid hbt
        clear hfin hbt g1
        go_wp2
        go_ret
        exact ⟨by rw [← HB.out]; first | rfl | simp, hg, by first | exact ⟨hi', hA'⟩ | exact hA'⟩
       ·have g1b : ((s' : Int) == m.f1) = false := beq_eq_false_iff_ne.2 g1
        have hbt : (false && decide (0 < (s' : Int))) = b := by rw [← hfin, decide_eq_false g1, Bool.false_or]
        have HB := Lib.hid hbt
        clear hfin hbt g1
        go_wp2
        go_ret
        exact ⟨by rw [← HB.out]; first | rfl | simp, hg, by first | exact ⟨hi', hA'⟩ | exact hA'⟩
   ·rw [if_neg c2] at h
    have e1 : (m.f0 == 1) = false := beq_eq_false_iff_ne.2 (fun e => c2 (Or.inl e))
    have e1' : (1 == m.f0) = false := beq_eq_false_iff_ne.2 (fun e => c2 (Or.inl e.symm))
    have e2 : (m.f0 == 2) = false := beq_eq_false_iff_ne.2 (fun e => c2 (Or.inr e))
    have e2' : (2 == m.f0) = false := beq_eq_false_iff_ne.2 (fun e => c2 (Or.inr e.symm))
    clear c2
    by_cases c3 : m.f0 = 3
    ·rw [if_pos c3] at h
     obtain ⟨⟨b2, j'⟩, hk, h⟩ := Option.map_eq_some_iff.mp h
     obtain ⟨rfl, rfl⟩ := Prod.mk.inj h
     have e3 : (m.f0 == 3) = true := beq_iff_eq.2 c3
     have e3' : (3 == m.f0) = true := by rw [c3]; rfl
     clear c3
     go_enter Tryz.func18, Tryz.ntmps18
     go_wp2_with (go_at_call 18; go_must (refine (ih (i + 1) b2 j' _ (by omega) hk (hbelow _ _) hT1).mono ?_; rintro e w2 ⟨rfl, hg2, hj2, hA2⟩))
     go_ret
     exact ⟨rfl, hgr1.trans hg2, by first | exact ⟨hj2, hA2⟩ | exact hA2⟩
    ·rw [if_neg c3] at h
     have e3 : (m.f0 == 3) = false := beq_eq_false_iff_ne.2 c3
     have e3' : (3 == m.f0) = false := beq_eq_false_iff_ne.2 (fun e => c3 e.symm)
     clear c3
     obtain ⟨b2, ho, h⟩ := Option.map_eq_some_iff.mp h
     obtain ⟨rfl, rfl⟩ := Prod.mk.inj h
     have ho : traits_test.f K m.f0 m.f1 m.f2 m.f3 m.f4.f0 m.f4.f1 lB lL fa fd fq = some b2 := ho
     have f0 := (Joins.cell_of_block hT1.facts 0).trans rfl
     have f1 := (Joins.cell_of_block hT1.facts 1).trans rfl
     have f2 := (Joins.cell_of_block hT1.facts 2).trans rfl
     have f3 := (Joins.cell_of_block hT1.facts 3).trans rfl
     have f4 := (Joins.cell_of_block hT1.facts 4).trans rfl
     go_enter Tryz.func18, Tryz.ntmps18
     go_wp2_with (go_at_call 19; go_must (refine (traits_test.calls K m.f0 m.f1 m.f2 m.f3 m.f4.f0 m.f4.f1 AB cB lB AL cL lL fa fd fq b2 _ (Kd.C_below hCB (hbelow _ _)) hcB (Kd.C_below hCL (hbelow _ _)) hcL ho).mono ?_; rintro e w2 ⟨rfl, hb2⟩; obtain ⟨hg2, hA2, _⟩ := hafter _ _ _ hb2))
     go_ret
     exact ⟨rfl, hg2, by first | exact ⟨c1, by simpa using hA2⟩ | simpa using hA2⟩
  ·rw [if_neg c1] at h; cases h
theorem lt_of_block' {w : World} {k : Nat} {o : Obj} (h : w.heap[k]? = some o) : k < w.heap.size := (Array.getElem?_eq_some_iff.1 h).1
theorem below_on {w w1 w2 : World} (h : Below w.heap.size w w1) (hb : Below w1.heap.size w1 w2) : Below w.heap.size w w2 := h.trans (hb.mono h.size)
theorem keep_of {w1 w2 : World} {k : Nat} {o : Obj} (h : w1.heap[k]? = some o) (hb : Below w1.heap.size w1 w2) : w2.heap[k]? = some o := (hb.block k (lt_of_block h)).trans h
set_option maxRecDepth 100000 in
set_option maxHeartbeats 2000000 in
theorem traits_Holds.calls (k : Nat) (A0 : Option Addr) (c0 : Nat) (l0 : List S44) (AB : Option Addr) (cB : Nat) (lB : List ByteArray) (AL : Option Addr) (cL : Nat) (lL : List ByteArray) (fa fd fq : Int) (r1 : Bool) (r2 : Int) (w : World) (hr0 : Kd.C k44 w A0 l0.length l0) (hc0 : l0.length ≤ c0) (hCB : Kd.C Kd.string w AB lB.length lB) (hcB : lB.length ≤ cB) (hCL : Kd.C Kd.string w AL lL.length lL) (hcL : lL.length ≤ cL) (h : traits_Holds.f k l0 lB lL fa fd fq = some (r1, r2)) (hG : GT w) :
  Calls Tryz.prog 7 #[.slice A0 l0.length c0, .agg #[.slice AB lB.length cB, .slice AL lL.length cL, .int .i64 fa, .int .i64 fd, .int .i64 fq]] w fun e w' => e = .returned (.tuple #[.bool r1, .int .i64 r2]) ∧ Below w.heap.size w w' := by
 rw [traits_Holds.f] at h
 obtain ⟨e0, he0, h⟩ := Option.bind_eq_some_iff.mp h
 have hsz : ((w.alloc (.cells #[.slice A0 l0.length c0] 22)).alloc (.cells #[.slice AB lB.length cB, .slice AL lL.length cL, .int .i64 fa, .int .i64 fd, .int .i64 fq] 25)).heap.size = w.heap.size + 2 := by simp
 have hB2 : Below w.heap.size w ((w.alloc (.cells #[.slice A0 l0.length c0] 22)).alloc (.cells #[.slice AB lB.length cB, .slice AL lL.length cL, .int .i64 fa, .int .i64 fd, .int .i64 fq] 25)) := ((Below.refl _ _).alloc (Nat.le_refl _) _).alloc (by simp) _
 have hN0 : ((w.alloc (.cells #[.slice A0 l0.length c0] 22)).alloc (.cells #[.slice AB lB.length cB, .slice AL lL.length cL, .int .i64 fa, .int .i64 fd, .int .i64 fq] 25)).heap[w.heap.size]? = some (.cells #[.slice A0 l0.length c0] 22 (0, 0)) := (Below.heap_alloc _ _ _ (by simp)).trans (MapKept.heap_alloc w _).1
 have hF0 : ((w.alloc (.cells #[.slice A0 l0.length c0] 22)).alloc (.cells #[.slice AB lB.length cB, .slice AL lL.length cL, .int .i64 fa, .int .i64 fd, .int .i64 fq] 25)).heap[w.heap.size + 1]? = some (.cells #[.slice AB lB.length cB, .slice AL lL.length cL, .int .i64 fa, .int .i64 fd, .int .i64 fq] 25 (0, 0)) := by
  have := (MapKept.heap_alloc (w.alloc (.cells #[.slice A0 l0.length c0] 22)) (.cells #[.slice AB lB.length cB, .slice AL lL.length cL, .int .i64 fa, .int .i64 fd, .int .i64 fq] 25)).1
  rwa [show (w.alloc (.cells #[.slice A0 l0.length c0] 22)).heap.size = w.heap.size + 1 from by simp] at this
 have HN0 := Lib.hid hN0
 have HF0 := Lib.hid hF0
 clear hN0 hF0
 have hCk := traits_Check.calls k A0 c0 l0 e0 _ (Kd.C_below hr0 hB2) hc0 he0 (hG.at hB2)
 have hon : ∀ w1, Below ((w.alloc (.cells #[.slice A0 l0.length c0] 22)).alloc (.cells #[.slice AB lB.length cB, .slice AL lL.length cL, .int .i64 fa, .int .i64 fd, .int .i64 fq] 25)).heap.size ((w.alloc (.cells #[.slice A0 l0.length c0] 22)).alloc (.cells #[.slice AB lB.length cB, .slice AL lL.length cL, .int .i64 fa, .int .i64 fd, .int .i64 fq] 25)) w1 → Below w.heap.size w w1 := fun w1 hb => hB2.trans (hb.mono (by omega))
 have hfc : ∀ w1 : World, w1.heap[w.heap.size + 1]? = some (.cells #[.slice AB lB.length cB, .slice AL lL.length cL, .int .i64 fa, .int .i64 fd, .int .i64 fq] 25 (0, 0)) → w1.cell? ⟨w.heap.size + 1, 0, none⟩ = some (.slice AB lB.length cB) ∧ w1.cell? ⟨w.heap.size + 1, 1, none⟩ = some (.slice AL lL.length cL) ∧ w1.cell? ⟨w.heap.size + 1, 2, none⟩ = some (.int .i64 fa) ∧ w1.cell? ⟨w.heap.size + 1, 3, none⟩ = some (.int .i64 fd) ∧ w1.cell? ⟨w.heap.size + 1, 4, none⟩ = some (.int .i64 fq) := fun w1 hF =>
  ⟨(Joins.cell_of_block hF 0).trans rfl, (Joins.cell_of_block hF 1).trans rfl, (Joins.cell_of_block hF 2).trans rfl, (Joins.cell_of_block hF 3).trans rfl, (Joins.cell_of_block hF 4).trans rfl⟩
 by_cases c1 : e0 = 0
 ·rw [if_pos c1] at h
  subst c1
  obtain ⟨g0, hg0, h⟩ := Option.bind_eq_some_iff.mp h
  have hFt := fun (w1 : World) (hB : Below w.heap.size w w1) => traits_Fit.calls k AB cB lB AL cL lL fa fd fq g0 w1 (Kd.C_below hCB hB) hcB (Kd.C_below hCL hB) hcL hg0 (hG.at hB)
  by_cases c2 : g0 = 0
  ·rw [if_pos c2] at h
   subst c2
   by_cases c3 : l0.length = 0
   ·rw [if_pos c3] at h
    obtain ⟨rfl, rfl⟩ := Prod.mk.inj (Option.some.inj h)
    have c3z : ((l0.length : Int) == 0) = true := beq_iff_eq.2 (by omega)
    clear c3 he0 hg0 hr0 hsz hB2 h
    go_enter Tryz.func7, Tryz.ntmps7
    go_wp2_with (first | (go_at_call 17; go_must (refine hCk.mono ?_; rintro e w1 ⟨rfl, hb1⟩; have hB1 := hon _ hb1; have hF1 : w1.heap[w.heap.size + 1]? = some (.cells #[.slice AB lB.length cB, .slice AL lL.length cL, .int .i64 fa, .int .i64 fd, .int .i64 fq] 25 (0, 0)) := keep_of HF0.out hb1; have hN1 := keep_of HN0.out hb1; obtain ⟨f0, f1, f2, f3, f4⟩ := hfc w1 hF1; have hcN := cell_of_one hN1)) | (go_at_call 13; go_must (refine (hFt _ hB1).mono ?_; rintro e w2 ⟨rfl, hb2⟩; have hN2 := keep_of hN1 hb2; have hF2 := keep_of hF1 hb2; have hB2 := below_on hB1 hb2; have hcN2 := cell_of_one hN2)))
    go_ret2
    exact ⟨rfl, below_on hB1 hb2⟩
   ·rw [if_neg c3] at h
    have hl : l0.length ≤ 64 := by
     rw [traits_Check.f, if_neg c3] at he0
     by_cases c4 : 64 < l0.length
     ·rw [if_pos c4] at he0; cases he0
     ·omega
    obtain ⟨⟨b, j⟩, ht, h⟩ := Option.map_eq_some_iff.mp h
    obtain ⟨rfl, rfl⟩ := Prod.mk.inj h
    have c3z : ((l0.length : Int) == 0) = false := beq_eq_false_iff_ne.2 (by omega)
    have hmf : ∀ (fn : Fn) (first cap : Array Value) (w : World), (Instr.makeFunc fn first cap).run Tryz.prog w = .ok (.func fn first cap) w := fun _ _ _ _ => rfl
    have hsf := fun (a : Addr) (c : Array Value) (w : World) => run_store Tryz.prog w a (.func (.func 18) #[] c) .plain rfl
    have hcall : ∀ w2, Below w.heap.size w w2 → w2.heap[w.heap.size]? = some (.cells #[.slice A0 l0.length c0] 22 (0, 0)) → w2.heap[w.heap.size + 1]? = some (.cells #[.slice AB lB.length cB, .slice AL lL.length cL, .int .i64 fa, .int .i64 fd, .int .i64 fq] 25 (0, 0)) →
      Calls Tryz.prog 18 #[.pointer (some ⟨w.heap.size, 0, none⟩), .pointer (some ⟨w2.heap.size, 0, none⟩), .pointer (some ⟨w2.heap.size + 1, 0, none⟩), .pointer (some ⟨w.heap.size + 1, 0, none⟩)] ((w2.alloc (.cells #[.int .i64 0] 3)).alloc (.cells #[.func (.func 18) #[] #[.pointer (some ⟨w.heap.size, 0, none⟩), .pointer (some ⟨w2.heap.size, 0, none⟩), .pointer (some ⟨w2.heap.size + 1, 0, none⟩), .pointer (some ⟨w.heap.size + 1, 0, none⟩)]] 33)) fun e w3 => e = .returned (.bool b) ∧ Below w.heap.size w w3 := fun w2 hB hN hF => by
     have hlt := lt_of_block hF
     have hB3 : Below w.heap.size w ((w2.alloc (.cells #[.int .i64 0] 3)).alloc (.cells #[.func (.func 18) #[] #[.pointer (some ⟨w.heap.size, 0, none⟩), .pointer (some ⟨w2.heap.size, 0, none⟩), .pointer (some ⟨w2.heap.size + 1, 0, none⟩), .pointer (some ⟨w.heap.size + 1, 0, none⟩)]] 33)) :=
      (hB.alloc (by omega) _).alloc (by simp; omega) _
     have hsa : (w2.alloc (.cells #[.int .i64 0] 3)).heap.size = w2.heap.size + 1 := by simp
     have hup : ∀ (o : Obj) (k : Nat) (x : Obj), w2.heap[k]? = some x → ((w2.alloc (.cells #[.int .i64 0] 3)).alloc o).heap[k]? = some x := fun o k x hx => by
      have := lt_of_block' hx
      exact (Below.heap_alloc _ _ _ (by omega)).trans ((Below.heap_alloc _ _ _ this).trans hx)
     refine (holds_calls k w l0 A0 c0 hr0 hl lB lL AB AL cB cL hCB hcB hCL hcL fa fd fq w.heap.size w2.heap.size (w2.heap.size + 1) (w.heap.size + 1) (by omega) 20 0 b j _ (Nat.zero_le _) ht hB3 ⟨?_, hup _ _ _ hN, hup _ _ _ hF, ?_⟩).mono ?_
     ·exact (Below.heap_alloc _ _ _ (by omega)).trans (MapKept.heap_alloc w2 _).1
     ·have := (MapKept.heap_alloc (w2.alloc (.cells #[.int .i64 0] 3)) (.cells #[.func (.func 18) #[] #[.pointer (some ⟨w.heap.size, 0, none⟩), .pointer (some ⟨w2.heap.size, 0, none⟩), .pointer (some ⟨w2.heap.size + 1, 0, none⟩), .pointer (some ⟨w.heap.size + 1, 0, none⟩)]] 33)).1
      rwa [hsa] at this
     ·rintro e w3 ⟨rfl, hg, _, _⟩
      exact ⟨rfl, hB3.grown hg hB3.size (fun k hk => by cases hk; omega)⟩
    clear c3 he0 hg0 hr0 hsz hB2 h ht hl
    go_enter Tryz.func7, Tryz.ntmps7
    go_wp2_with (first | (go_at_call 17; go_must (refine hCk.mono ?_; rintro e w1 ⟨rfl, hb1⟩; have hB1 := hon _ hb1; have hF1 : w1.heap[w.heap.size + 1]? = some (.cells #[.slice AB lB.length cB, .slice AL lL.length cL, .int .i64 fa, .int .i64 fd, .int .i64 fq] 25 (0, 0)) := keep_of HF0.out hb1; have hN1 := keep_of HN0.out hb1; obtain ⟨f0, f1, f2, f3, f4⟩ := hfc w1 hF1; have hcN := cell_of_one hN1)) | (go_at_call 13; go_must (refine (hFt _ hB1).mono ?_; rintro e w2 ⟨rfl, hb2⟩; have hN2 := keep_of hN1 hb2; have hF2 := keep_of hF1 hb2; have hB2 := below_on hB1 hb2; have hcN2 := cell_of_one hN2)) | (go_at_call 18; go_must (refine (hcall _ hB2 hN2 hF2).mono ?_; rintro e w3 ⟨rfl, hB3⟩)))
    go_ret2
    exact ⟨rfl, hB3⟩
  ·rw [if_neg c2] at h
   obtain ⟨rfl, rfl⟩ := Prod.mk.inj (Option.some.inj h)
   have c1z : (g0 == 0) = false := beq_eq_false_iff_ne.2 c2
   have c1y : (g0 != 0) = true := bne_iff_ne.2 c2
   clear c2 he0 hg0 hr0 hsz hB2 h
   go_enter Tryz.func7, Tryz.ntmps7
   go_wp2_with (first | (go_at_call 17; go_must (refine hCk.mono ?_; rintro e w1 ⟨rfl, hb1⟩; have hB1 := hon _ hb1; have hF1 : w1.heap[w.heap.size + 1]? = some (.cells #[.slice AB lB.length cB, .slice AL lL.length cL, .int .i64 fa, .int .i64 fd, .int .i64 fq] 25 (0, 0)) := keep_of HF0.out hb1; have hN1 := keep_of HN0.out hb1; obtain ⟨f0, f1, f2, f3, f4⟩ := hfc w1 hF1; have hcN := cell_of_one hN1)) | (go_at_call 13; go_must (refine (hFt _ hB1).mono ?_; rintro e w2 ⟨rfl, hb2⟩; have hN2 := keep_of hN1 hb2; have hF2 := keep_of hF1 hb2; have hB2 := below_on hB1 hb2; have hcN2 := cell_of_one hN2)))
   go_ret2
   exact ⟨rfl, below_on hB1 hb2⟩
 ·rw [if_neg c1] at h
  obtain ⟨rfl, rfl⟩ := Prod.mk.inj (Option.some.inj h)
  have c1z : (e0 == 0) = false := beq_eq_false_iff_ne.2 c1
  have c1y : (e0 != 0) = true := bne_iff_ne.2 c1
  clear c1 he0 hsz hr0
  go_enter Tryz.func7, Tryz.ntmps7
  go_wp2_with (go_at_call 17; go_must (refine hCk.mono ?_; rintro e w1 ⟨rfl, hb1⟩))
  go_ret2
  exact ⟨rfl, hon _ hb1⟩
def strings_Split.f (a0 a1 : ByteArray) : Option (List ByteArray) := if a0.size < 4294967281 ∧ 1 ≤ a1.size then some (Lib.splitB a1 0 (Lib.countB a0 a1) a0) else none
theorem R_strings (w : World) (L : List ByteArray) (hL : L.length ≤ 9223372036854775807) : Kd.R Kd.string 9 (w.alloc (.cells (L.map Value.string).toArray 9)) w.heap.size (fun _ => True) (.slice (some ⟨w.heap.size, 0, none⟩) L.length L.length) L := by
 refine Kd.R_of_own ⟨by simp [encs], Or.inr ⟨w.heap.size, L.length, (L.map Value.string).toArray, rfl, Nat.le_refl _, (MapKept.heap_alloc w _).1, Nat.le_refl _, by unfold maxLen; omega, by simp, ?_⟩⟩ (fun _ _ => trivial)
 simp [encs, List.take_of_length_le]
theorem strings_Split.calls (a0 a1 : ByteArray) (r : List ByteArray) (w : World) (h : strings_Split.f a0 a1 = some r) (hG : GT w) :
  Calls Tryz.prog 59 #[.string a0, .string a1] w fun e w' => ∃ v0_ : Value, e = .returned v0_ ∧ Kd.R Kd.string 9 w' w.heap.size (fun _ => True) v0_ r ∧ Below w.heap.size w w' := by
 unfold strings_Split.f at h
 split at h
 ·rename_i hc
  obtain rfl := Option.some.inj h
  obtain ⟨m, hm⟩ := hG.max
  refine (Tryz.strings_Split a0 a1 m w hc.1 hm hc.2).mono ?_
  rintro e w' ⟨rfl, rfl⟩
  have hl := Lib.splitB_all a1 hc.2 0 _ a0 rfl
  refine ⟨_, rfl, ?_, (Below.refl _ _).alloc (Nat.le_refl _) _⟩
  have := R_strings w (Lib.splitB a1 0 (Lib.countB a0 a1) a0) (by have := Lib.countB_le a1 hc.2 _ a0 (Nat.le_refl _); omega)
  rw [hl] at this
  exact this
 ·cases h
end Go.Proofs.YtlboolhjfffppaaGreatDoor.PBLI
