-- Written by this session's program (wip/tools/pr.py over the kit's print).
import Derived.Test.YtcljnjnlafkieaaGreatDoorRPh
import Derived.Test.YtcljnjnlafkieaaGreatDoorRPPLNx0
import Derived.Test.YtcljnjnlafkieaaGreatDoorRPPLNx19
namespace Go.Proofs.YtcljnjnlafkieaaGreatDoorR.PPLN
open Go.RowKit Go.Proofs.YtcljnjnlafkieaaGreatDoorRW.PrintWords Go.Proofs.YtcljnjnlafkieaaGreatDoorRW.PrintLast Go.Proofs.YtcljnjnlafkieaaGreatDoorRW.PrintMore
attribute [local go_sem] max2_int min2_int max_two min_two max_three min_three max_four min_four
set_option linter.unusedVariables false
set_option linter.unusedSimpArgs false
def traits_Covers.j0 : Nat → ByteArray → List ByteArray → Int → Bool → Option (Bool)
 | 0, _, _, _, _ => none
 | k + 1, x0, x5, x6, x18 => if x18 = true then (some (x6 == 0)) else ((traits_Class.f k x0).bind fun bt367 => (if bt367.2 = 0 then (if (bt367.1.length : Int) ≤ (x5.length : Int) then (if 0 ≤ (bt367.1.length : Int) then ((slices_Equal_string_string.f k bt367.1 (x5.take ((bt367.1.length : Int) : Int).toNat)).bind fun t375 => (some t375)) else (none)) else (some false)) else (some false)))
def traits_Covers.f (k : Nat) (a0 : ByteArray) (a1 : ByteArray) : Option (Bool) := (traits_Class.f k a1).bind fun bt363 => (if bt363.2 = 0 then (traits_Covers.j0 k a0 bt363.1 bt363.2 (a0.toList == ([] : List UInt8))) else (traits_Covers.j0 k a0 bt363.1 bt363.2 true))
theorem traits_Covers.mono_l : ∀ k, (∀ y0 y1 y2 y3, LeO (traits_Covers.j0 k y0 y1 y2 y3) (traits_Covers.j0 (k + 1) y0 y1 y2 y3))
 | 0 => fun _ _ _ _ r h => by simp [traits_Covers.j0] at h
 | k + 1 => by
  have ih0 := traits_Covers.mono_l k
  ·intro y0 y1 y2 y3
   unfold traits_Covers.j0
   repeat' first
   | (with_reducible exact ih0 _ _ _ _)
   | (with_reducible exact slices_Equal_string_string.mono _ _ _)
   | (with_reducible exact traits_Class.mono _ _)
   | (with_reducible exact LeO.refl _)
   | (with_reducible exact LeO.none _)
   | (with_reducible refine LeO.ite ?_ ?_)
   | (with_reducible refine LeO.bind ?_ (fun _ => ?_))
   | exact ih0 _ _ _ _
   | exact slices_Equal_string_string.mono _ _ _
   | exact traits_Class.mono _ _
   | exact LeO.none _
   | refine LeO.ite ?_ ?_
   | refine LeO.bind ?_ (fun _ => ?_)
theorem traits_Covers.mono : ∀ a0 a1 k, LeO (traits_Covers.f k a0 a1) (traits_Covers.f (k + 1) a0 a1) := by
 intro a0 a1 k
 have ih0 := traits_Covers.mono_l k
 unfold traits_Covers.f
 repeat' first
   | (with_reducible exact ih0 _ _ _ _)
   | (with_reducible exact slices_Equal_string_string.mono _ _ _)
   | (with_reducible exact traits_Class.mono _ _)
   | (with_reducible exact LeO.refl _)
   | (with_reducible exact LeO.none _)
   | (with_reducible refine LeO.ite ?_ ?_)
   | (with_reducible refine LeO.bind ?_ (fun _ => ?_))
   | exact ih0 _ _ _ _
   | exact slices_Equal_string_string.mono _ _ _
   | exact traits_Class.mono _ _
   | exact LeO.none _
   | refine LeO.ite ?_ ?_
   | refine LeO.bind ?_ (fun _ => ?_)
set_option maxHeartbeats 8000000 in
set_option maxRecDepth 100000 in
theorem traits_Covers.calls (k : Nat) (a0 : ByteArray) (a1 : ByteArray) (r : Bool) (w : World) (h : traits_Covers.f k a0 a1 = some r) (hG : GT w) :
  Calls Tryz.prog 27 #[.string a0, .string a1] w fun e w' => e = .returned (.bool r) ∧ Below w.heap.size w w' := by
 have HB := Aside0.mk (Below.refl w.heap.size w)
 have H : ((traits_Class.f k a1).bind fun bt363 => (if bt363.2 = 0 then (traits_Covers.j0 k a0 bt363.1 bt363.2 (a0.toList == ([] : List UInt8))) else (traits_Covers.j0 k a0 bt363.1 bt363.2 true))) = some r := h
 clear h
 replace H := Option.bind_eq_some_iff.mp H
 obtain ⟨⟨t363, t364⟩, A30, H⟩ := H
 replace H : (if t364 = 0 then (traits_Covers.j0 k a0 t363 t364 (a0.toList == ([] : List UInt8))) else (traits_Covers.j0 k a0 t363 t364 true)) = some r := H
 have A3 := Aside0.mk A30
 clear A30
 have HC4 := Aside0.mk H
 clear H
 go_enter Tryz.func27, Tryz.ntmps27
 go_upto_region 2 with (first | ((with_reducible refine gate_callee (f := 39) rfl ?_); refine goesL_ (some 10) rfl rfl Tryz.func39 (by kernel_rfl) rfl #[.string a1] rfl (by (try simp only [List.map_toArray, List.map_cons, List.map_nil]); first | done | rfl | (simp only [List.length_drop, List.length_take]; rfl)) ?_; (with_reducible refine (traits_Class.calls k a1 t363 t364 _ A3.out (hG.at (hb0_ HB.out))).mono ?_); rintro e w5 ⟨v365, rfl, ho0, hb⟩; refine ⟨_, rfl, ?_⟩; have n0_ := Aside0.mk (Kd.R_lower ho0 (below_size (hb0_ HB.out))); have n1_ := Aside0.mk (below_step (hb0_ HB.out) hb); clear HB; have HO366 := n0_; have HB := n1_; clear n0_ n1_; (try clear hb); (try clear hb2); (try clear hk); (try clear hi); (try clear ho0)))
 (try simp only [Act.put, List.setIfInBounds_toArray, List.set_cons_zero, List.set_cons_succ])
 go_cut [18] (fun v18 wc => ∃ (kq : Nat) (x18_3 : Bool), v18 = .bool x18_3 ∧ Aside0 (traits_Covers.j0 kq a0 t363 t364 x18_3 = some r) ∧ Aside0 (kq ≤ k) ∧ Aside0 (Kd.R Kd.string 9 wc w.heap.size (fun _ => True) v365 t363) ∧ Aside0 (Below w.heap.size w wc))
 case first =>
  have H := HC4.out
  clear HC4
  by_cases c6 : t364 = 0
  ·rw [if_pos c6] at H
   have c6b0 : (t364 == 0) = true := beq_iff_eq.mpr c6
   have c6b1 : (t364 != 0) = false := bne_eq_false_iff_eq.mpr c6
   clear c6
   (first | rw [c6b0] | (simp only [i64_w, i32_w]; rw [c6b0]) | skip)
   have H' := Aside0.mk H
   clear H
   go_wp2
   go_meet
   case rel => exact ⟨_, ((a0.toList == ([] : List UInt8))), (by first | rfl | (simp; done) | (simp [*]; done)), H', ⟨by first | omega | exact Nat.le_refl _⟩, ⟨by (with_reducible repeat (first | apply Kd.R_alloc | apply Kd.R_drewN | apply Kd.R_drew)); exact HO366.out⟩, ⟨(hb0_ HB.out)⟩⟩
  ·rw [if_neg c6] at H
   have c6b0 : (t364 == 0) = false := beq_eq_false_iff_ne.mpr c6
   have c6b1 : (t364 != 0) = true := bne_iff_ne.mpr c6
   (first | rw [c6b0] | (simp only [i64_w, i32_w]; rw [c6b0]) | skip)
   have H' := Aside0.mk H
   clear H
   go_wp2
   go_meet
   case rel => exact ⟨_, (true), (by first | rfl | (simp; done) | (simp [*]; done)), H', ⟨by first | omega | exact Nat.le_refl _⟩, ⟨by (with_reducible repeat (first | apply Kd.R_alloc | apply Kd.R_drewN | apply Kd.R_drew)); exact HO366.out⟩, ⟨(hb0_ HB.out)⟩⟩
 case rest =>
  clear HC4
  try clear c2
  try clear p2
  try clear c3
  try clear c6
  try clear c6b0
  try clear c6b1
  obtain ⟨kq, x18_3, rfl, HA, HJ3, HO_5, HB⟩ := hcut
  cases kq with
  | zero => exact absurd HA.out (by simp [traits_Covers.j0])
  | succ kj3 =>
   have H := HA.out
   clear HA
   simp only [traits_Covers.j0] at H
   by_cases c7 : x18_3 = true
   ·subst c7
    have H1 : (some (t364 == 0)) = some r := by rw [if_pos rfl] at H; exact H
    clear H
    have H := H1
    clear H1
    obtain rfl := Option.some.inj H
    go_wp2
    go_ret
    exact ⟨rf_, (hb0_ HB.out)⟩
   ·replace c7 := Bool.eq_false_iff.mpr c7
    subst c7
    have H1 : ((traits_Class.f kj3 a0).bind fun bt367 => (if bt367.2 = 0 then (if (bt367.1.length : Int) ≤ (t363.length : Int) then (if 0 ≤ (bt367.1.length : Int) then ((slices_Equal_string_string.f kj3 bt367.1 (t363.take ((bt367.1.length : Int) : Int).toNat)).bind fun t375 => (some t375)) else (none)) else (some false)) else (some false))) = some r := by rw [if_neg (show ¬ (false = true) by decide)] at H; exact H
    clear H
    have H := H1
    clear H1
    replace H := Option.bind_eq_some_iff.mp H
    obtain ⟨⟨t367, t368⟩, A80, H⟩ := H
    replace H : (if t368 = 0 then (if (t367.length : Int) ≤ (t363.length : Int) then (if 0 ≤ (t367.length : Int) then ((slices_Equal_string_string.f kj3 t367 (t363.take ((t367.length : Int) : Int).toNat)).bind fun t375 => (some t375)) else (none)) else (some false)) else (some false)) = some r := H
    have A8 := Aside0.mk A80
    clear A80
    by_cases c9 : t368 = 0
    ·rw [if_pos c9] at H
     have c9b0 : (t368 == 0) = true := beq_iff_eq.mpr c9
     have c9b1 : (t368 != 0) = false := bne_eq_false_iff_eq.mpr c9
     clear c9
     by_cases c10 : (t367.length : Int) ≤ (t363.length : Int)
     ·rw [if_pos c10] at H
      have c10b0 : decide ((t367.length : Int) ≤ (t363.length : Int)) = true := decide_eq_true c10
      have c10b1 : decide (t367.length ≤ t363.length) = true := decide_eq_true (Int.ofNat_le.mp c10)
      clear c10
      by_cases c11 : 0 ≤ (t367.length : Int)
      ·rw [if_pos c11] at H
       have c11b0 := eq_true c11
       have c11b1 : decide (0 ≤ (t367.length : Int)) = true := decide_eq_true c11
       clear c11
       have c12b0 := eq_true (od_ : (t367.length : Int) ≤ (t363.length : Int))
       obtain ⟨y371, hy371⟩ : ∃ y_ : List ByteArray, y_ = (t363.take ((t367.length : Int) : Int).toNat) := ⟨_, rfl⟩
       replace H : ((slices_Equal_string_string.f kj3 t367 y371).bind fun t375 => (some t375)) = some r := by first | (rw [hy371]; with_reducible exact H) | (have H2_ := (Option.bind_some _ _).symm.trans H; rw [hy371]; with_reducible exact H2_) | (have H2_ := (Option.bind_some _ _).symm.trans H; with_reducible exact H2_) | with_reducible exact H | (rw [hy371]; exact H) | exact H
       have Ny371 := Aside0.mk hy371
       clear hy371
       replace H := Option.bind_eq_some_iff.mp H
       obtain ⟨t375, A130, H⟩ := H
       replace H : (some t375) = some r := H
       have A13 := Aside0.mk A130
       clear A130
       obtain rfl := Option.some.inj H
       go_wp2_with (first | ((with_reducible refine gate_callee (f := 39) rfl ?_); refine goesL_ (some 23) rfl rfl Tryz.func39 (by kernel_rfl) rfl #[.string a0] rfl (by (try simp only [List.map_toArray, List.map_cons, List.map_nil]); first | done | rfl | (simp only [List.length_drop, List.length_take]; rfl)) ?_; (with_reducible refine (traits_Class.calls kj3 a0 t367 t368 _ A8.out (hG.at (hb0_ HB.out))).mono ?_); rintro e w14 ⟨v369, rfl, ho0, hb⟩; refine ⟨_, rfl, ?_⟩; have n0_ := Aside0.mk (Kd.R_elder' (by (with_reducible repeat (first | apply Kd.R_alloc | apply Kd.R_drewN | apply Kd.R_drew)); exact HO_5.out) (Kd.R_base ho0) hb); have n1_ := Aside0.mk (Kd.R_lower (Kd.R_new' ho0 (Kd.R_lt (by (with_reducible repeat (first | apply Kd.R_alloc | apply Kd.R_drewN | apply Kd.R_drew)); exact HO_5.out))) (below_size (hb0_ HB.out))); have n2_ := Aside0.mk (below_step (hb0_ HB.out) hb); clear HO_5; clear HB; have HO_5 := n0_; have HO370 := n1_; have HB := n2_; clear n0_ n1_ n2_; (try clear hb); (try clear hb2); (try clear hk); (try clear hi); (try clear ho0); obtain ⟨Ao15, co15, eo15⟩ := Kd.R_slice HO370.out; subst eo15; obtain ⟨Ao16, co16, eo16⟩ := Kd.R_slice HO_5.out; subst eo16; have q17 : ((t367.length : Int) : Int) ≤ ((t363.length : Int) : Int) := od_; obtain ⟨i017, hi017, _, hsz17, _⟩ := info_parts info9; have hroom17 : t363.length ≤ co16 := (Kd.R_reads' HO_5.out).2.1; have hC17 : Kd.C Kd.string _ Ao16 t363.length t363 := (Kd.R_reads' HO_5.out).2.2; have hcut17 := cut_to (P := Tryz.prog) 27 9 .i64 Tryz.underlying27 hi017 Ao16 t363.length co16 (t367.length : Int) (od_) q17 hroom17; have hr17 := Kd.C_take (m := ((t367.length : Int) : Int).toNat) hC17 (by omega); have hy17 : y371.length = ((t367.length : Int) : Int).toNat := (by rw [Ny371.out, List.length_take]; omega); rw [← Ny371.out] at hr17; rw [← hy17] at hcut17; have HR374 := Aside0.mk hr17; have HC374 := Aside0.mk (show y371.length ≤ co16 from by omega); clear hr17 hC17 hroom17 hi017 hsz17; have KY17 := Aside0.mk hy17; clear hy17; have KL17 := Aside0.mk (show ((t367.length : Int) : Int).toNat ≤ t363.length from by omega); replace q17 := eq_true q17) | (go_at_call 40; (with_reducible refine (slices_Equal_string_string.calls kj3 _ _ t367 _ _ y371 t375 _ ?side1 ?side2 ?side3 ?side4 A13.out).mono ?_); (case side1 => repeat (first | exact (Kd.R_reads' HO370.out).2.2 | (with_reducible refine Kd.C_alloc ?_ _) | (with_reducible refine Kd.C_drewN ?_ _) | (with_reducible refine Kd.C_drew ?_))); (case side2 => exact (Kd.R_reads' HO370.out).2.1); (case side3 => repeat (first | exact (by repeat (first | (with_reducible exact HR374.out) | (with_reducible refine Kd.C_alloc ?_ _) | (with_reducible refine Kd.C_drewN ?_ _) | (with_reducible refine Kd.C_drew ?_) | exact HR374.out)) | (with_reducible refine Kd.C_alloc ?_ _) | (with_reducible refine Kd.C_drewN ?_ _) | (with_reducible refine Kd.C_drew ?_))); (case side4 => exact HC374.out); rintro e w' ⟨rfl, ⟨nd, rfl⟩⟩))
       go_ret
       exact ⟨rf_, (hb0_ HB.out)⟩
      ·rw [if_neg c11] at H
       exact absurd H (by simp)
     ·rw [if_neg c10] at H
      have c10b0 : decide ((t367.length : Int) ≤ (t363.length : Int)) = false := decide_eq_false c10
      have c10b1 : decide (t367.length ≤ t363.length) = false := decide_eq_false (fun h => c10 (Int.ofNat_le.mpr h))
      clear c10
      obtain rfl := Option.some.inj H
      go_wp2_with (first | ((with_reducible refine gate_callee (f := 39) rfl ?_); refine goesL_ (some 23) rfl rfl Tryz.func39 (by kernel_rfl) rfl #[.string a0] rfl (by (try simp only [List.map_toArray, List.map_cons, List.map_nil]); first | done | rfl | (simp only [List.length_drop, List.length_take]; rfl)) ?_; (with_reducible refine (traits_Class.calls kj3 a0 t367 t368 _ A8.out (hG.at (hb0_ HB.out))).mono ?_); rintro e w18 ⟨v369, rfl, ho0, hb⟩; refine ⟨_, rfl, ?_⟩; have n0_ := Aside0.mk (Kd.R_elder' (by (with_reducible repeat (first | apply Kd.R_alloc | apply Kd.R_drewN | apply Kd.R_drew)); exact HO_5.out) (Kd.R_base ho0) hb); have n1_ := Aside0.mk (Kd.R_lower (Kd.R_new' ho0 (Kd.R_lt (by (with_reducible repeat (first | apply Kd.R_alloc | apply Kd.R_drewN | apply Kd.R_drew)); exact HO_5.out))) (below_size (hb0_ HB.out))); have n2_ := Aside0.mk (below_step (hb0_ HB.out) hb); clear HO_5; clear HB; have HO_5 := n0_; have HO370 := n1_; have HB := n2_; clear n0_ n1_ n2_; (try clear hb); (try clear hb2); (try clear hk); (try clear hi); (try clear ho0); obtain ⟨Ao19, co19, eo19⟩ := Kd.R_slice HO370.out; subst eo19; obtain ⟨Ao20, co20, eo20⟩ := Kd.R_slice HO_5.out; subst eo20))
      go_ret
      exact ⟨rf_, (hb0_ HB.out)⟩
    ·rw [if_neg c9] at H
     have c9b0 : (t368 == 0) = false := beq_eq_false_iff_ne.mpr c9
     have c9b1 : (t368 != 0) = true := bne_iff_ne.mpr c9
     obtain rfl := Option.some.inj H
     go_wp2_with (first | ((with_reducible refine gate_callee (f := 39) rfl ?_); refine goesL_ (some 23) rfl rfl Tryz.func39 (by kernel_rfl) rfl #[.string a0] rfl (by (try simp only [List.map_toArray, List.map_cons, List.map_nil]); first | done | rfl | (simp only [List.length_drop, List.length_take]; rfl)) ?_; (with_reducible refine (traits_Class.calls kj3 a0 t367 t368 _ A8.out (hG.at (hb0_ HB.out))).mono ?_); rintro e w21 ⟨v369, rfl, ho0, hb⟩; refine ⟨_, rfl, ?_⟩; have n0_ := Aside0.mk (Kd.R_elder' (by (with_reducible repeat (first | apply Kd.R_alloc | apply Kd.R_drewN | apply Kd.R_drew)); exact HO_5.out) (Kd.R_base ho0) hb); have n1_ := Aside0.mk (Kd.R_lower (Kd.R_new' ho0 (Kd.R_lt (by (with_reducible repeat (first | apply Kd.R_alloc | apply Kd.R_drewN | apply Kd.R_drew)); exact HO_5.out))) (below_size (hb0_ HB.out))); have n2_ := Aside0.mk (below_step (hb0_ HB.out) hb); clear HO_5; clear HB; have HO_5 := n0_; have HO370 := n1_; have HB := n2_; clear n0_ n1_ n2_; (try clear hb); (try clear hb2); (try clear hk); (try clear hi); (try clear ho0)))
     go_ret
     exact ⟨rf_, (hb0_ HB.out)⟩
def tollbooklaw13_awake.f (k : Nat)  : Option (Bool) := (some (([(⟨2, 2, (⟨#[]⟩ : ByteArray), 0, (⟨0, 0⟩ : S43)⟩ : S45), (⟨4, 0, (⟨#[101, 117]⟩ : ByteArray), 0, (⟨0, 0⟩ : S43)⟩ : S45), (⟨3, 1, (⟨#[]⟩ : ByteArray), 0, (⟨0, 0⟩ : S43)⟩ : S45), (⟨5, 0, (⟨#[102, 111, 111, 100]⟩ : ByteArray), 0, (⟨0, 0⟩ : S43)⟩ : S45)] : List (S45)) : List (S45))).bind fun y376 => ((traits_Holds.f k y376 (([(⟨#[101, 117]⟩ : ByteArray)] : List ByteArray)) ([] : List ByteArray) 0 0 1).bind fun bt382 => ((traits_Holds.f k y376 (([(⟨#[101, 117]⟩ : ByteArray)] : List ByteArray)) (([(⟨#[102, 111, 111, 100]⟩ : ByteArray)] : List ByteArray)) 0 0 1).bind fun bt390 => (if bt382.1 = true then (if bt390.1 = true then (some false) else (if bt382.2 = 0 then (if bt390.2 = 0 then ((traits_Covers.f k (⟨#[102, 111, 111, 100]⟩ : ByteArray) (⟨#[102, 111, 111, 100, 46, 98, 114, 101, 97, 100]⟩ : ByteArray)).bind fun t392 => (some t392)) else (some false)) else (some false))) else (some false))))
theorem tollbooklaw13_awake.mono : ∀ k, LeO (tollbooklaw13_awake.f k ) (tollbooklaw13_awake.f (k + 1) ) := by
 intro  k
 unfold tollbooklaw13_awake.f
 repeat' first
   | (with_reducible exact traits_Covers.mono _ _ _)
   | (with_reducible exact traits_Holds.mono _ _ _ _ _ _ _)
   | (with_reducible exact LeO.refl _)
   | (with_reducible exact LeO.none _)
   | (with_reducible refine LeO.ite ?_ ?_)
   | (with_reducible refine LeO.bind ?_ (fun _ => ?_))
   | exact traits_Covers.mono _ _ _
   | exact traits_Holds.mono _ _ _ _ _ _ _
   | exact LeO.none _
   | refine LeO.ite ?_ ?_
   | refine LeO.bind ?_ (fun _ => ?_)
set_option maxHeartbeats 8000000 in
set_option maxRecDepth 100000 in
theorem tollbooklaw13_awake.calls (k : Nat)  (w : World) (h : tollbooklaw13_awake.f k  = some true) (hG : GT w) :
  Calls Tryz.prog 13 #[] w fun e w' => e = .returned (.bool true) ∧ Below w.heap.size w w' := by
 have hu45 := Tryz.underlying45
 have hu35 := Tryz.underlying35
 have HB := Aside0.mk (Below.refl w.heap.size w)
 have H : ((some (([(⟨2, 2, (⟨#[]⟩ : ByteArray), 0, (⟨0, 0⟩ : S43)⟩ : S45), (⟨4, 0, (⟨#[101, 117]⟩ : ByteArray), 0, (⟨0, 0⟩ : S43)⟩ : S45), (⟨3, 1, (⟨#[]⟩ : ByteArray), 0, (⟨0, 0⟩ : S43)⟩ : S45), (⟨5, 0, (⟨#[102, 111, 111, 100]⟩ : ByteArray), 0, (⟨0, 0⟩ : S43)⟩ : S45)] : List (S45)) : List (S45))).bind fun y376 => ((traits_Holds.f k y376 (([(⟨#[101, 117]⟩ : ByteArray)] : List ByteArray)) ([] : List ByteArray) 0 0 1).bind fun bt382 => ((traits_Holds.f k y376 (([(⟨#[101, 117]⟩ : ByteArray)] : List ByteArray)) (([(⟨#[102, 111, 111, 100]⟩ : ByteArray)] : List ByteArray)) 0 0 1).bind fun bt390 => (if bt382.1 = true then (if bt390.1 = true then (some false) else (if bt382.2 = 0 then (if bt390.2 = 0 then ((traits_Covers.f k (⟨#[102, 111, 111, 100]⟩ : ByteArray) (⟨#[102, 111, 111, 100, 46, 98, 114, 101, 97, 100]⟩ : ByteArray)).bind fun t392 => (some t392)) else (some false)) else (some false))) else (some false))))) = some true := h
 clear h
 obtain ⟨y376, hy376⟩ : ∃ y_ : List (S45), y_ = (([(⟨2, 2, (⟨#[]⟩ : ByteArray), 0, (⟨0, 0⟩ : S43)⟩ : S45), (⟨4, 0, (⟨#[101, 117]⟩ : ByteArray), 0, (⟨0, 0⟩ : S43)⟩ : S45), (⟨3, 1, (⟨#[]⟩ : ByteArray), 0, (⟨0, 0⟩ : S43)⟩ : S45), (⟨5, 0, (⟨#[102, 111, 111, 100]⟩ : ByteArray), 0, (⟨0, 0⟩ : S43)⟩ : S45)] : List (S45))) := ⟨_, rfl⟩
 replace H : ((traits_Holds.f k y376 (([(⟨#[101, 117]⟩ : ByteArray)] : List ByteArray)) ([] : List ByteArray) 0 0 1).bind fun bt382 => ((traits_Holds.f k y376 (([(⟨#[101, 117]⟩ : ByteArray)] : List ByteArray)) (([(⟨#[102, 111, 111, 100]⟩ : ByteArray)] : List ByteArray)) 0 0 1).bind fun bt390 => (if bt382.1 = true then (if bt390.1 = true then (some false) else (if bt382.2 = 0 then (if bt390.2 = 0 then ((traits_Covers.f k (⟨#[102, 111, 111, 100]⟩ : ByteArray) (⟨#[102, 111, 111, 100, 46, 98, 114, 101, 97, 100]⟩ : ByteArray)).bind fun t392 => (some t392)) else (some false)) else (some false))) else (some false)))) = some true := by first | (rw [hy376]; with_reducible exact H) | (have H2_ := (Option.bind_some _ _).symm.trans H; rw [hy376]; with_reducible exact H2_) | (have H2_ := (Option.bind_some _ _).symm.trans H; with_reducible exact H2_) | with_reducible exact H | (rw [hy376]; exact H) | exact H
 have Ny376 := Aside0.mk hy376
 clear hy376
 obtain ⟨y379, hy379⟩ : ∃ y_ : List ByteArray, y_ = (([(⟨#[101, 117]⟩ : ByteArray)] : List ByteArray)) := ⟨_, rfl⟩
 replace H : ((traits_Holds.f k y376 y379 ([] : List ByteArray) 0 0 1).bind fun bt382 => ((traits_Holds.f k y376 (([(⟨#[101, 117]⟩ : ByteArray)] : List ByteArray)) (([(⟨#[102, 111, 111, 100]⟩ : ByteArray)] : List ByteArray)) 0 0 1).bind fun bt390 => (if bt382.1 = true then (if bt390.1 = true then (some false) else (if bt382.2 = 0 then (if bt390.2 = 0 then ((traits_Covers.f k (⟨#[102, 111, 111, 100]⟩ : ByteArray) (⟨#[102, 111, 111, 100, 46, 98, 114, 101, 97, 100]⟩ : ByteArray)).bind fun t392 => (some t392)) else (some false)) else (some false))) else (some false)))) = some true := by first | (rw [hy379]; with_reducible exact H) | (have H2_ := (Option.bind_some _ _).symm.trans H; rw [hy379]; with_reducible exact H2_) | (have H2_ := (Option.bind_some _ _).symm.trans H; with_reducible exact H2_) | with_reducible exact H | (rw [hy379]; exact H) | exact H
 have Ny379 := Aside0.mk hy379
 clear hy379
 replace H := Option.bind_eq_some_iff.mp H
 obtain ⟨⟨t382, t383⟩, A10, H⟩ := H
 replace H : ((traits_Holds.f k y376 (([(⟨#[101, 117]⟩ : ByteArray)] : List ByteArray)) (([(⟨#[102, 111, 111, 100]⟩ : ByteArray)] : List ByteArray)) 0 0 1).bind fun bt390 => (if t382 = true then (if bt390.1 = true then (some false) else (if t383 = 0 then (if bt390.2 = 0 then ((traits_Covers.f k (⟨#[102, 111, 111, 100]⟩ : ByteArray) (⟨#[102, 111, 111, 100, 46, 98, 114, 101, 97, 100]⟩ : ByteArray)).bind fun t392 => (some t392)) else (some false)) else (some false))) else (some false))) = some true := H
 have A1 := Aside0.mk A10
 clear A10
 obtain ⟨y384, hy384⟩ : ∃ y_ : List ByteArray, y_ = (([(⟨#[101, 117]⟩ : ByteArray)] : List ByteArray)) := ⟨_, rfl⟩
 replace H : ((traits_Holds.f k y376 y384 (([(⟨#[102, 111, 111, 100]⟩ : ByteArray)] : List ByteArray)) 0 0 1).bind fun bt390 => (if t382 = true then (if bt390.1 = true then (some false) else (if t383 = 0 then (if bt390.2 = 0 then ((traits_Covers.f k (⟨#[102, 111, 111, 100]⟩ : ByteArray) (⟨#[102, 111, 111, 100, 46, 98, 114, 101, 97, 100]⟩ : ByteArray)).bind fun t392 => (some t392)) else (some false)) else (some false))) else (some false))) = some true := by first | (rw [hy384]; with_reducible exact H) | (have H2_ := (Option.bind_some _ _).symm.trans H; rw [hy384]; with_reducible exact H2_) | (have H2_ := (Option.bind_some _ _).symm.trans H; with_reducible exact H2_) | with_reducible exact H | (rw [hy384]; exact H) | exact H
 have Ny384 := Aside0.mk hy384
 clear hy384
 obtain ⟨y387, hy387⟩ : ∃ y_ : List ByteArray, y_ = (([(⟨#[102, 111, 111, 100]⟩ : ByteArray)] : List ByteArray)) := ⟨_, rfl⟩
 replace H : ((traits_Holds.f k y376 y384 y387 0 0 1).bind fun bt390 => (if t382 = true then (if bt390.1 = true then (some false) else (if t383 = 0 then (if bt390.2 = 0 then ((traits_Covers.f k (⟨#[102, 111, 111, 100]⟩ : ByteArray) (⟨#[102, 111, 111, 100, 46, 98, 114, 101, 97, 100]⟩ : ByteArray)).bind fun t392 => (some t392)) else (some false)) else (some false))) else (some false))) = some true := by first | (rw [hy387]; with_reducible exact H) | (have H2_ := (Option.bind_some _ _).symm.trans H; rw [hy387]; with_reducible exact H2_) | (have H2_ := (Option.bind_some _ _).symm.trans H; with_reducible exact H2_) | with_reducible exact H | (rw [hy387]; exact H) | exact H
 have Ny387 := Aside0.mk hy387
 clear hy387
 replace H := Option.bind_eq_some_iff.mp H
 obtain ⟨⟨t390, t391⟩, A20, H⟩ := H
 replace H : (if t382 = true then (if t390 = true then (some false) else (if t383 = 0 then (if t391 = 0 then ((traits_Covers.f k (⟨#[102, 111, 111, 100]⟩ : ByteArray) (⟨#[102, 111, 111, 100, 46, 98, 114, 101, 97, 100]⟩ : ByteArray)).bind fun t392 => (some t392)) else (some false)) else (some false))) else (some false)) = some true := H
 have A2 := Aside0.mk A20
 clear A20
 by_cases c3 : t382 = true
 ·subst c3
  have H1 : (if t390 = true then (some false) else (if t383 = 0 then (if t391 = 0 then ((traits_Covers.f k (⟨#[102, 111, 111, 100]⟩ : ByteArray) (⟨#[102, 111, 111, 100, 46, 98, 114, 101, 97, 100]⟩ : ByteArray)).bind fun t392 => (some t392)) else (some false)) else (some false))) = some true := by rw [if_pos rfl] at H; exact H
  clear H
  have H := H1
  clear H1
  by_cases c4 : t390 = true
  ·subst c4
   have H1 : (some false) = some true := by rw [if_pos rfl] at H; exact H
   exact absurd (Option.some.inj H1) (by decide)
  ·replace c4 := Bool.eq_false_iff.mpr c4
   subst c4
   have H1 : (if t383 = 0 then (if t391 = 0 then ((traits_Covers.f k (⟨#[102, 111, 111, 100]⟩ : ByteArray) (⟨#[102, 111, 111, 100, 46, 98, 114, 101, 97, 100]⟩ : ByteArray)).bind fun t392 => (some t392)) else (some false)) else (some false)) = some true := by rw [if_neg (show ¬ (false = true) by decide)] at H; exact H
   clear H
   have H := H1
   clear H1
   by_cases c19 : t383 = 0
   ·rw [if_pos c19] at H
    have c19b0 : (t383 == 0) = true := beq_iff_eq.mpr c19
    have c19b1 : (t383 != 0) = false := bne_eq_false_iff_eq.mpr c19
    clear c19
    by_cases c20 : t391 = 0
    ·rw [if_pos c20] at H
     have c20b0 : (t391 == 0) = true := beq_iff_eq.mpr c20
     have c20b1 : (t391 != 0) = false := bne_eq_false_iff_eq.mpr c20
     clear c20
     replace H := Option.bind_eq_some_iff.mp H
     obtain ⟨t392, A210, H⟩ := H
     replace H : (some t392) = some true := H
     have A21 := Aside0.mk A210
     clear A210
     have hr_ := Option.some.inj H
     go_enter Tryz.func13, Tryz.ntmps13
     go_wp2_with (first | ((with_reducible refine gate_dst (N := 10) rfl ?_); refine Kd.R_lit k45 _ 45 ?hg (N := 10) ?hd (xs := ([(⟨2, 2, (⟨#[]⟩ : ByteArray), 0, (⟨0, 0⟩ : S43)⟩ : S45), (⟨4, 0, (⟨#[101, 117]⟩ : ByteArray), 0, (⟨0, 0⟩ : S43)⟩ : S45), (⟨3, 1, (⟨#[]⟩ : ByteArray), 0, (⟨0, 0⟩ : S43)⟩ : S45), (⟨5, 0, (⟨#[102, 111, 111, 100]⟩ : ByteArray), 0, (⟨0, 0⟩ : S43)⟩ : S45)] : List (S45))) (inner := [.int .i64 2, .int .i64 2, .string (⟨#[]⟩ : ByteArray), .int .i64 0, .int .i64 0, .int .i64 0, .int .i64 4, .int .i64 0, .string (⟨#[101, 117]⟩ : ByteArray), .int .i64 0, .int .i64 0, .int .i64 0, .int .i64 3, .int .i64 1, .string (⟨#[]⟩ : ByteArray), .int .i64 0, .int .i64 0, .int .i64 0, .int .i64 5, .int .i64 0, .string (⟨#[102, 111, 111, 100]⟩ : ByteArray), .int .i64 0, .int .i64 0, .int .i64 0]) (ok := fun _ => True) (okp := fun _ => True) ?hr ?hp (fun _ hk => hk) trivial (Below.refl _ _) (Nat.le_refl _) (by simp) ?_; (case hd => rfl); (case hg => rfl); (case hr => first | (go_simp; done) | (go_simp; rfl)); (case hp => exact (Reps.c6 (show Kd.M k45 _ _ _ (⟨2, 2, (⟨#[]⟩ : ByteArray), 0, (⟨0, 0⟩ : S43)⟩ : S45) [.int .i64 2, .int .i64 2, .string (⟨#[]⟩ : ByteArray), .int .i64 0, .int .i64 0, .int .i64 0] from (k45_mkM _ _ _ (⟨2, 2, (⟨#[]⟩ : ByteArray), 0, (⟨0, 0⟩ : S43)⟩ : S45) )) (Reps.c6 (show Kd.M k45 _ _ _ (⟨4, 0, (⟨#[101, 117]⟩ : ByteArray), 0, (⟨0, 0⟩ : S43)⟩ : S45) [.int .i64 4, .int .i64 0, .string (⟨#[101, 117]⟩ : ByteArray), .int .i64 0, .int .i64 0, .int .i64 0] from (k45_mkM _ _ _ (⟨4, 0, (⟨#[101, 117]⟩ : ByteArray), 0, (⟨0, 0⟩ : S43)⟩ : S45) )) (Reps.c6 (show Kd.M k45 _ _ _ (⟨3, 1, (⟨#[]⟩ : ByteArray), 0, (⟨0, 0⟩ : S43)⟩ : S45) [.int .i64 3, .int .i64 1, .string (⟨#[]⟩ : ByteArray), .int .i64 0, .int .i64 0, .int .i64 0] from (k45_mkM _ _ _ (⟨3, 1, (⟨#[]⟩ : ByteArray), 0, (⟨0, 0⟩ : S43)⟩ : S45) )) (Reps.c6 (show Kd.M k45 _ _ _ (⟨5, 0, (⟨#[102, 111, 111, 100]⟩ : ByteArray), 0, (⟨0, 0⟩ : S43)⟩ : S45) [.int .i64 5, .int .i64 0, .string (⟨#[102, 111, 111, 100]⟩ : ByteArray), .int .i64 0, .int .i64 0, .int .i64 0] from (k45_mkM _ _ _ (⟨5, 0, (⟨#[102, 111, 111, 100]⟩ : ByteArray), 0, (⟨0, 0⟩ : S43)⟩ : S45) )) (Reps.none _ _)))))); intro v377 w22 ho23 hb hg_ hnew_; clear hg_ hnew_; (first | rw [← Ny376.out] at ho23 | (simp only [Int.reduceToNat] at ho23; rw [← Ny376.out] at ho23)); have n0_ := Aside0.mk (Kd.R_lower ho23 (below_size (hb0_ HB.out))); have n1_ := Aside0.mk (below_step (hb0_ HB.out) hb); clear HB; have HO378 := n0_; have HB := n1_; clear n0_ n1_; clear hb ho23) | ((with_reducible refine gate_dst (N := 13) rfl ?_); refine Kd.R_lit Kd.string _ 9 ?hg (N := 13) ?hd (xs := ([(⟨#[101, 117]⟩ : ByteArray)] : List ByteArray)) (inner := [.string (⟨#[101, 117]⟩ : ByteArray)]) (ok := fun _ => True) (okp := fun _ => True) ?hr ?hp (fun _ hk => hk) trivial (Below.refl _ _) (Nat.le_refl _) (by simp) ?_; (case hd => rfl); (case hg => rfl); (case hr => first | (go_simp; done) | (go_simp; rfl)); (case hp => exact (Reps.one (show Kd.M Kd.string _ _ _ (⟨#[101, 117]⟩ : ByteArray) [.string (⟨#[101, 117]⟩ : ByteArray)] from rfl) (Reps.none _ _))); intro v380 w24 ho25 hb hg_ hnew_; clear hg_ hnew_; (first | rw [← Ny379.out] at ho25 | (simp only [Int.reduceToNat] at ho25; rw [← Ny379.out] at ho25)); have n0_ := Aside0.mk (Kd.R_below (by (with_reducible repeat (first | apply Kd.R_alloc | apply Kd.R_drewN | apply Kd.R_drew)); exact HO378.out) hb); have n1_ := Aside0.mk (Kd.R_lower ho25 (below_size (hb0_ HB.out))); have n2_ := Aside0.mk (below_step (hb0_ HB.out) hb); clear HO378; clear HB; have HO378 := n0_; have HO381 := n1_; have HB := n2_; clear n0_ n1_ n2_; clear hb ho25; obtain ⟨Ao26, co26, eo26⟩ := Kd.R_slice HO381.out; subst eo26; obtain ⟨Ao27, co27, eo27⟩ := Kd.R_slice HO378.out; subst eo27) | ((with_reducible refine gate_callee (f := 16) rfl ?_); refine goesL_ (some 15) rfl rfl Tryz.func16 (by kernel_rfl) rfl #[.slice Ao27 y376.length co27, .agg #[.slice Ao26 y379.length co26, .slice none 0 0, .int .i64 0, .int .i64 0, .int .i64 1]] rfl (by (try simp only [List.map_toArray, List.map_cons, List.map_nil]); first | done | rfl | (simp only [List.length_drop, List.length_take]; rfl)) ?_; (refine (traits_Holds.calls k _ _ y376 _ _ y379 _ _ ([] : List ByteArray) 0 0 1 true t383 _ ?side1 ?side2 ?side3 ?side4 ?side5 ?side6 A1.out (hG.at (hb0_ HB.out))).mono ?_); (case side1 => repeat (first | exact (Kd.R_reads' HO378.out).2.2 | (with_reducible refine Kd.C_alloc ?_ _) | (with_reducible refine Kd.C_drewN ?_ _) | (with_reducible refine Kd.C_drew ?_))); (case side2 => exact (Kd.R_reads' HO378.out).2.1); (case side3 => repeat (first | exact (Kd.R_reads' HO381.out).2.2 | (with_reducible refine Kd.C_alloc ?_ _) | (with_reducible refine Kd.C_drewN ?_ _) | (with_reducible refine Kd.C_drew ?_))); (case side4 => exact (Kd.R_reads' HO381.out).2.1); (case side5 => exact Kd.C_nil _ _); (case side6 => exact Nat.le_refl _); rintro e w28 ⟨rfl, hb⟩; refine ⟨_, rfl, ?_⟩; have n0_ := Aside0.mk (Kd.R_below (by (with_reducible repeat (first | apply Kd.R_alloc | apply Kd.R_drewN | apply Kd.R_drew)); exact HO378.out) hb); have n1_ := Aside0.mk (Kd.R_below (by (with_reducible repeat (first | apply Kd.R_alloc | apply Kd.R_drewN | apply Kd.R_drew)); exact HO381.out) hb); have n2_ := Aside0.mk (below_step (hb0_ HB.out) hb); clear HO378; clear HO381; clear HB; have HO378 := n0_; have HO381 := n1_; have HB := n2_; clear n0_ n1_ n2_; (try clear hb); (try clear hb2); (try clear hk); (try clear hi)) | ((with_reducible refine gate_dst (N := 20) rfl ?_); refine Kd.R_lit Kd.string _ 9 ?hg (N := 20) ?hd (xs := ([(⟨#[101, 117]⟩ : ByteArray)] : List ByteArray)) (inner := [.string (⟨#[101, 117]⟩ : ByteArray)]) (ok := fun _ => True) (okp := fun _ => True) ?hr ?hp (fun _ hk => hk) trivial (Below.refl _ _) (Nat.le_refl _) (by simp) ?_; (case hd => rfl); (case hg => rfl); (case hr => first | (go_simp; done) | (go_simp; rfl)); (case hp => exact (Reps.one (show Kd.M Kd.string _ _ _ (⟨#[101, 117]⟩ : ByteArray) [.string (⟨#[101, 117]⟩ : ByteArray)] from rfl) (Reps.none _ _))); intro v385 w29 ho30 hb hg_ hnew_; clear hg_ hnew_; (first | rw [← Ny384.out] at ho30 | (simp only [Int.reduceToNat] at ho30; rw [← Ny384.out] at ho30)); have n0_ := Aside0.mk (Kd.R_below (by (with_reducible repeat (first | apply Kd.R_alloc | apply Kd.R_drewN | apply Kd.R_drew)); exact HO378.out) hb); have n1_ := Aside0.mk (Kd.R_elder' (by (with_reducible repeat (first | apply Kd.R_alloc | apply Kd.R_drewN | apply Kd.R_drew)); exact HO381.out) (Kd.R_base ho30) hb); have n2_ := Aside0.mk (Kd.R_lower (Kd.R_new' ho30 (Kd.R_lt (by (with_reducible repeat (first | apply Kd.R_alloc | apply Kd.R_drewN | apply Kd.R_drew)); exact HO381.out))) (below_size (hb0_ HB.out))); have n3_ := Aside0.mk (below_step (hb0_ HB.out) hb); clear HO378; clear HO381; clear HB; have HO378 := n0_; have HO381 := n1_; have HO386 := n2_; have HB := n3_; clear n0_ n1_ n2_ n3_; clear hb ho30) | ((with_reducible refine gate_dst (N := 21) rfl ?_); refine Kd.R_lit Kd.string _ 9 ?hg (N := 21) ?hd (xs := ([(⟨#[102, 111, 111, 100]⟩ : ByteArray)] : List ByteArray)) (inner := [.string (⟨#[102, 111, 111, 100]⟩ : ByteArray)]) (ok := fun _ => True) (okp := fun _ => True) ?hr ?hp (fun _ hk => hk) trivial (Below.refl _ _) (Nat.le_refl _) (by simp) ?_; (case hd => rfl); (case hg => rfl); (case hr => first | (go_simp; done) | (go_simp; rfl)); (case hp => exact (Reps.one (show Kd.M Kd.string _ _ _ (⟨#[102, 111, 111, 100]⟩ : ByteArray) [.string (⟨#[102, 111, 111, 100]⟩ : ByteArray)] from rfl) (Reps.none _ _))); intro v388 w31 ho32 hb hg_ hnew_; clear hg_ hnew_; (first | rw [← Ny387.out] at ho32 | (simp only [Int.reduceToNat] at ho32; rw [← Ny387.out] at ho32)); have n0_ := Aside0.mk (Kd.R_below (by (with_reducible repeat (first | apply Kd.R_alloc | apply Kd.R_drewN | apply Kd.R_drew)); exact HO378.out) hb); have n1_ := Aside0.mk (Kd.R_elder' (by (with_reducible repeat (first | apply Kd.R_alloc | apply Kd.R_drewN | apply Kd.R_drew)); exact HO381.out) (Kd.R_base ho32) hb); have n2_ := Aside0.mk (Kd.R_elder' (by (with_reducible repeat (first | apply Kd.R_alloc | apply Kd.R_drewN | apply Kd.R_drew)); exact HO386.out) (Kd.R_base ho32) hb); have n3_ := Aside0.mk (Kd.R_lower (Kd.R_new' (Kd.R_new' ho32 (Kd.R_lt (by (with_reducible repeat (first | apply Kd.R_alloc | apply Kd.R_drewN | apply Kd.R_drew)); exact HO381.out))) (Kd.R_lt (by (with_reducible repeat (first | apply Kd.R_alloc | apply Kd.R_drewN | apply Kd.R_drew)); exact HO386.out))) (below_size (hb0_ HB.out))); have n4_ := Aside0.mk (below_step (hb0_ HB.out) hb); clear HO378; clear HO381; clear HO386; clear HB; have HO378 := n0_; have HO381 := n1_; have HO386 := n2_; have HO389 := n3_; have HB := n4_; clear n0_ n1_ n2_ n3_ n4_; clear hb ho32; obtain ⟨Ao33, co33, eo33⟩ := Kd.R_slice HO389.out; subst eo33; obtain ⟨Ao34, co34, eo34⟩ := Kd.R_slice HO386.out; subst eo34) | ((with_reducible refine gate_callee (f := 16) rfl ?_); refine goesL_ (some 23) rfl rfl Tryz.func16 (by kernel_rfl) rfl #[.slice Ao27 y376.length co27, .agg #[.slice Ao34 y384.length co34, .slice Ao33 y387.length co33, .int .i64 0, .int .i64 0, .int .i64 1]] rfl (by (try simp only [List.map_toArray, List.map_cons, List.map_nil]); first | done | rfl | (simp only [List.length_drop, List.length_take]; rfl)) ?_; (with_reducible refine (traits_Holds.calls k _ _ y376 _ _ y384 _ _ y387 0 0 1 false t391 _ ?side1 ?side2 ?side3 ?side4 ?side5 ?side6 A2.out (hG.at (hb0_ HB.out))).mono ?_); (case side1 => repeat (first | exact (Kd.R_reads' HO378.out).2.2 | (with_reducible refine Kd.C_alloc ?_ _) | (with_reducible refine Kd.C_drewN ?_ _) | (with_reducible refine Kd.C_drew ?_))); (case side2 => exact (Kd.R_reads' HO378.out).2.1); (case side3 => repeat (first | exact (Kd.R_reads' HO386.out).2.2 | (with_reducible refine Kd.C_alloc ?_ _) | (with_reducible refine Kd.C_drewN ?_ _) | (with_reducible refine Kd.C_drew ?_))); (case side4 => exact (Kd.R_reads' HO386.out).2.1); (case side5 => repeat (first | exact (Kd.R_reads' HO389.out).2.2 | (with_reducible refine Kd.C_alloc ?_ _) | (with_reducible refine Kd.C_drewN ?_ _) | (with_reducible refine Kd.C_drew ?_))); (case side6 => exact (Kd.R_reads' HO389.out).2.1); rintro e w35 ⟨rfl, hb⟩; refine ⟨_, rfl, ?_⟩; have n0_ := Aside0.mk (Kd.R_below (by (with_reducible repeat (first | apply Kd.R_alloc | apply Kd.R_drewN | apply Kd.R_drew)); exact HO378.out) hb); have n1_ := Aside0.mk (Kd.R_below (by (with_reducible repeat (first | apply Kd.R_alloc | apply Kd.R_drewN | apply Kd.R_drew)); exact HO381.out) hb); have n2_ := Aside0.mk (Kd.R_below (by (with_reducible repeat (first | apply Kd.R_alloc | apply Kd.R_drewN | apply Kd.R_drew)); exact HO386.out) hb); have n3_ := Aside0.mk (Kd.R_below (by (with_reducible repeat (first | apply Kd.R_alloc | apply Kd.R_drewN | apply Kd.R_drew)); exact HO389.out) hb); have n4_ := Aside0.mk (below_step (hb0_ HB.out) hb); clear HO378; clear HO381; clear HO386; clear HO389; clear HB; have HO378 := n0_; have HO381 := n1_; have HO386 := n2_; have HO389 := n3_; have HB := n4_; clear n0_ n1_ n2_ n3_ n4_; (try clear hb); (try clear hb2); (try clear hk); (try clear hi)) | (go_at_call 27; (with_reducible refine (traits_Covers.calls k (⟨#[102, 111, 111, 100]⟩ : ByteArray) (⟨#[102, 111, 111, 100, 46, 98, 114, 101, 97, 100]⟩ : ByteArray) t392 _ A21.out (hG.at (hb0_ HB.out))).mono ?_); rintro e w36 ⟨rfl, hb⟩; have n0_ := Aside0.mk (Kd.R_below (by (with_reducible repeat (first | apply Kd.R_alloc | apply Kd.R_drewN | apply Kd.R_drew)); exact HO378.out) hb); have n1_ := Aside0.mk (Kd.R_below (by (with_reducible repeat (first | apply Kd.R_alloc | apply Kd.R_drewN | apply Kd.R_drew)); exact HO381.out) hb); have n2_ := Aside0.mk (Kd.R_below (by (with_reducible repeat (first | apply Kd.R_alloc | apply Kd.R_drewN | apply Kd.R_drew)); exact HO386.out) hb); have n3_ := Aside0.mk (Kd.R_below (by (with_reducible repeat (first | apply Kd.R_alloc | apply Kd.R_drewN | apply Kd.R_drew)); exact HO389.out) hb); have n4_ := Aside0.mk (below_step (hb0_ HB.out) hb); clear HO378; clear HO381; clear HO386; clear HO389; clear HB; have HO378 := n0_; have HO381 := n1_; have HO386 := n2_; have HO389 := n3_; have HB := n4_; clear n0_ n1_ n2_ n3_ n4_; (try clear hb); (try clear hb2); (try clear hk); (try clear hi)))
     go_ret
     exact ⟨rf_, (hb0_ HB.out)⟩
    ·rw [if_neg c20] at H
     exact absurd (Option.some.inj H) (by decide)
   ·rw [if_neg c19] at H
    exact absurd (Option.some.inj H) (by decide)
 ·replace c3 := Bool.eq_false_iff.mpr c3
  subst c3
  have H1 : (some false) = some true := by rw [if_neg (show ¬ (false = true) by decide)] at H; exact H
  exact absurd (Option.some.inj H1) (by decide)
end Go.Proofs.YtcljnjnlafkieaaGreatDoorR.PPLN
