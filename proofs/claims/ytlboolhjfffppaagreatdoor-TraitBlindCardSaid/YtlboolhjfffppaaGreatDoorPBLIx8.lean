-- Written by this session's program (wip/tools/pr.py over the kit's print).
import Derived.Test.YtlboolhjfffppaaGreatDoorPh
import Derived.Test.YtlboolhjfffppaaGreatDoorPBLIx0
import Derived.Test.YtlboolhjfffppaaGreatDoorPBLIx5
namespace Go.Proofs.YtlboolhjfffppaaGreatDoor.PBLI
open Go.RowKit Go.Proofs.YtlboolhjfffppaaGreatDoorW.PrintWords Go.Proofs.YtlboolhjfffppaaGreatDoorW.PrintLast Go.Proofs.YtlboolhjfffppaaGreatDoorW.PrintMore
attribute [local go_sem] max2_int min2_int max_two min_two max_three min_three max_four min_four
set_option linter.unusedVariables false
set_option linter.unusedSimpArgs false
mutual
def nat_Mul.l0 : Nat → List Int → List Int → Int → Int → List Int → Option (List Int × Int)
 | 0, _, _, _, _, _ => none
 | k + 1, x6, x25, x26, x27, x149000 => if x27 < x26 then (if 0 ≤ x27 then (if x27 < (x25.length : Int) then (nat_Mul.l1 k x6 x27 (rd x25 x27) 0 x25 x26 x27 x149000 (x149000.length : Int) 0 x149000) else (none)) else (none)) else ((nat_held.f x6).bind fun bt153 => (some (bt153.1, bt153.2)))
def nat_Mul.l1 : Nat → List Int → Int → Int → Int → List Int → Int → Int → List Int → Int → Int → List Int → Option (List Int × Int)
 | 0, _, _, _, _, _, _, _, _, _, _, _ => none
 | k + 1, x6, x7, x8, x9, x25, x26, x27, x33, x34, x35, x149000 => if x35 < x34 then (if 0 ≤ x35 then (if x35 < (x33.length : Int) then ((limb_Mul.f x8 (rd x33 x35)).bind fun bt159 => (if 0 ≤ (wrap64 (x7 + x35)) then (if (wrap64 (x7 + x35)) < (x6.length : Int) then ((limb_Add.f bt159.2 (rd x6 (wrap64 (x7 + x35))) 0).bind fun bt162 => ((limb_Add.f bt162.1 x9 0).bind fun bt164 => (nat_Mul.l1 k (x6.set ((wrap64 (x7 + x35)) : Int).toNat bt164.1) x7 x8 (IntKind.u64.wrap ((IntKind.u64.wrap (bt159.1 + bt162.2)) + bt164.2)) x25 x26 x27 x33 x34 (wrap64 (x35 + 1)) x149000))) else (none)) else (none))) else (none)) else (none)) else (if 0 ≤ (wrap64 (x7 + (x149000.length : Int))) then (if (wrap64 (x7 + (x149000.length : Int))) < (x6.length : Int) then (nat_Mul.l0 k (x6.set ((wrap64 (x7 + (x149000.length : Int))) : Int).toNat x9) x25 x26 (wrap64 (x27 + 1)) x149000) else (none)) else (none))
end
def nat_Mul.f (k : Nat) (l0_0 : List Int) (l1_0 : List Int) : Option (List Int × Int) := if 0 ≤ (wrap64 ((l0_0.length : Int) + (l1_0.length : Int))) then (if (wrap64 ((l0_0.length : Int) + (l1_0.length : Int)) : Int).toNat ≤ 35184372088832 then (nat_Mul.l0 k (List.replicate (wrap64 ((l0_0.length : Int) + (l1_0.length : Int)) : Int).toNat 0) l0_0 (l0_0.length : Int) 0 l1_0) else (none)) else (none)
set_option maxHeartbeats 8000000 in
set_option maxRecDepth 100000 in
theorem nat_Mul.calls (k : Nat) (A0_0 : Option Addr) (c0_0 : Nat) (l0_0 : List Int) (A1_0 : Option Addr) (c1_0 : Nat) (l1_0 : List Int) (r1 : List Int) (r2 : Int) (w : World) (hr0_0 : Kd.C (Kd.int .u64) w A0_0 l0_0.length l0_0) (hc0_0 : l0_0.length ≤ c0_0) (hr1_0 : Kd.C (Kd.int .u64) w A1_0 l1_0.length l1_0) (hc1_0 : l1_0.length ≤ c1_0) (h : nat_Mul.f k l0_0 l1_0 = some (r1, r2)) :
  Calls Tryz.prog 134 #[.agg #[.slice A0_0 l0_0.length c0_0], .agg #[.slice A1_0 l1_0.length c1_0]] w fun e w' => ∃ v0_ : Value, e = .returned (.tuple #[.agg #[v0_], .int .i64 r2]) ∧ Kd.V (Kd.int .u64) 92 w' w.heap.size (fun k_ => (w.heap.size ≤ k_)) v0_ r1 ∧ Below w.heap.size w w' := by
 have hu81 := Tryz.underlying81
 have HR0_0 := Aside0.mk hr0_0
 have HC0_0 := Aside0.mk hc0_0
 clear hr0_0 hc0_0
 have HR1_0 := Aside0.mk hr1_0
 have HC1_0 := Aside0.mk hc1_0
 clear hr1_0 hc1_0
 have HB := Aside0.mk (Below.refl w.heap.size w)
 have H : (if 0 ≤ (wrap64 ((l0_0.length : Int) + (l1_0.length : Int))) then (if (wrap64 ((l0_0.length : Int) + (l1_0.length : Int)) : Int).toNat ≤ 35184372088832 then (nat_Mul.l0 k (List.replicate (wrap64 ((l0_0.length : Int) + (l1_0.length : Int)) : Int).toNat 0) l0_0 (l0_0.length : Int) 0 l1_0) else (none)) else (none)) = some (r1, r2) := h
 clear h
 obtain ⟨ji3, hji3⟩ : ∃ j_ : Int, (wrap64 ((l0_0.length : Int) + (l1_0.length : Int))) = j_ := ⟨_, rfl⟩
 replace H : (if 0 ≤ (ji3) then (if (ji3 : Int).toNat ≤ 35184372088832 then (nat_Mul.l0 k (List.replicate (ji3 : Int).toNat 0) l0_0 (l0_0.length : Int) 0 l1_0) else (none)) else (none)) = some (r1, r2) := by first | (rw [hji3] at H; exact H) | (simp only [hji3] at H ⊢; exact H)
 have hji3w : (IntKind.i64.wrap ((l0_0.length : Int) + (l1_0.length : Int))) = ji3 := (i64_w _).trans hji3
 by_cases c4 : 0 ≤ (ji3)
 ·rw [if_pos c4] at H
  have c4b0 := eq_true c4
  have c4b1 : decide (0 ≤ (ji3)) = true := decide_eq_true c4
  clear c4
  by_cases c5 : (ji3 : Int).toNat ≤ 35184372088832
  ·rw [if_pos c5] at H
   have c5b0 := eq_true c5
   have c5b1 : decide ((ji3 : Int).toNat ≤ 35184372088832) = true := decide_eq_true c5
   clear c5
   obtain ⟨y150, hy150⟩ : ∃ y_ : List Int, y_ = (List.replicate (ji3 : Int).toNat 0) := ⟨_, rfl⟩
   replace H : (nat_Mul.l0 k y150 l0_0 (l0_0.length : Int) 0 l1_0) = some (r1, r2) := by first | (rw [hy150]; with_reducible exact H) | (have H2_ := (Option.bind_some _ _).symm.trans H; rw [hy150]; with_reducible exact H2_) | (have H2_ := (Option.bind_some _ _).symm.trans H; with_reducible exact H2_) | with_reducible exact H | (rw [hy150]; exact H) | exact H
   have Ny150 := Aside0.mk hy150
   clear hy150
   have H' := Aside0.mk H
   clear H
   go_enter Tryz.func134, Tryz.ntmps134
   go_wp2_with (first | ((with_reducible refine gate_dst (N := 2) rfl ?_); refine box_event ?hg (N := 2) ?hd (cs := #[.slice A0_0 l0_0.length c0_0]) (t := 81) ?hr ?_; (case hd => rfl); (case hg => rfl); (case hr => first | (go_simp; done) | (go_simp; rfl)); intro gb147 hg w6 hbox hb; have n0_ := Aside0.mk (below_step (hb0_ HB.out) hb); have n1_ := Aside0.mk (hbox); have n2_ := Aside0.mk ((by rw [hg]; exact (below_size (hb0_ HB.out)) : w.heap.size ≤ gb147)); have n3_ := Aside0.mk ((by rw [hg]; exact (below_size (hb0_ HB.out)) : w.heap.size ≤ gb147)); clear HB; have HB := n0_; have BK147 := n1_; have GW147 := n2_; have GE147 := n3_; clear n0_ n1_ n2_ n3_; clear hb hbox hg) | ((with_reducible refine gate_dst (N := 3) rfl ?_); refine box_event ?hg (N := 3) ?hd (cs := #[.slice A1_0 l1_0.length c1_0]) (t := 81) ?hr ?_; (case hd => rfl); (case hg => rfl); (case hr => first | (go_simp; done) | (go_simp; rfl)); intro gb148 hg w7 hbox hb; have n0_ := Aside0.mk (blk_below (g := gb147) (o := .cells #[.slice A0_0 l0_0.length c0_0] 81 (0, 0)) (ph_ BK147.out) hb); have n1_ := Aside0.mk (below_step (hb1_ HB.out GE147.out) hb); have n2_ := Aside0.mk (hbox); have n3_ := Aside0.mk ((by rw [hg]; exact (below_size (hb1_ HB.out GE147.out)) : w.heap.size ≤ gb148)); have n4_ := n3_; have n5_ := Aside0.mk ((by rw [hg]; exact Nat.ne_of_lt (blk_lt (g := gb147) (o := .cells #[.slice A0_0 l0_0.length c0_0] 81 (0, 0)) (ph_ BK147.out)) : gb147 ≠ gb148)); have n6_ := Aside0.mk ((by rw [hg]; exact Nat.ne_of_gt (blk_lt (g := gb147) (o := .cells #[.slice A0_0 l0_0.length c0_0] 81 (0, 0)) (ph_ BK147.out)) : gb148 ≠ gb147)); clear BK147; clear HB; have BK147 := n0_; have HB := n1_; have BK148 := n2_; have GW148 := n3_; have GE148 := n4_; have NB147_148 := n5_; have NB148_147 := n6_; clear n0_ n1_ n2_ n3_ n4_ n5_ n6_; clear hb hbox hg) | ((with_reducible refine gate_dst (N := 4) rfl ?_); refine box_event ?hg (N := 4) ?hd (cs := #[.slice none 0 0]) (t := 81) ?hr ?_; (case hd => rfl); (case hg => rfl); (case hr => first | (go_simp; done) | (go_simp; rfl)); intro gb149 hg w8 hbox hb; have n0_ := Aside0.mk (blk_below (g := gb147) (o := .cells #[.slice A0_0 l0_0.length c0_0] 81 (0, 0)) (ph_ BK147.out) hb); have n1_ := Aside0.mk (blk_below (g := gb148) (o := .cells #[.slice A1_0 l1_0.length c1_0] 81 (0, 0)) (ph_ BK148.out) hb); have n2_ := Aside0.mk (below_step (hb2_ HB.out GE147.out GE148.out) hb); have n3_ := Aside0.mk (hbox); have n4_ := Aside0.mk ((by rw [hg]; exact (below_size (hb2_ HB.out GE147.out GE148.out)) : w.heap.size ≤ gb149)); have n5_ := n4_; have n6_ := Aside0.mk ((by rw [hg]; exact Nat.ne_of_lt (blk_lt (g := gb147) (o := .cells #[.slice A0_0 l0_0.length c0_0] 81 (0, 0)) (ph_ BK147.out)) : gb147 ≠ gb149)); have n7_ := Aside0.mk ((by rw [hg]; exact Nat.ne_of_gt (blk_lt (g := gb147) (o := .cells #[.slice A0_0 l0_0.length c0_0] 81 (0, 0)) (ph_ BK147.out)) : gb149 ≠ gb147)); have n8_ := Aside0.mk ((by rw [hg]; exact Nat.ne_of_lt (blk_lt (g := gb148) (o := .cells #[.slice A1_0 l1_0.length c1_0] 81 (0, 0)) (ph_ BK148.out)) : gb148 ≠ gb149)); have n9_ := Aside0.mk ((by rw [hg]; exact Nat.ne_of_gt (blk_lt (g := gb148) (o := .cells #[.slice A1_0 l1_0.length c1_0] 81 (0, 0)) (ph_ BK148.out)) : gb149 ≠ gb148)); clear BK147; clear BK148; clear HB; have BK147 := n0_; have BK148 := n1_; have HB := n2_; have BK149 := n3_; have GW149 := n4_; have GE149 := n5_; have NB147_149 := n6_; have NB149_147 := n7_; have NB148_149 := n8_; have NB149_148 := n9_; clear n0_ n1_ n2_ n3_ n4_ n5_ n6_ n7_ n8_ n9_; clear hb hbox hg; have hnb9 := NB147_148.out; have hnc9 := NB148_147.out; have hnb10 := NB147_149.out; have hnc10 := NB149_147.out; obtain ⟨hcz11_0, hfz11_0⟩ := bx1 BK147.out; have hnb12 := NB148_149.out; have hnc12 := NB149_148.out; obtain ⟨hcz13_0, hfz13_0⟩ := bx1 BK148.out) | ((with_reducible refine gate_dst (N := 23) rfl ?_); refine Kd.R_make (Kd.int .u64) _ 92 rfl (N := 23) rfl 79 _ _ rfl ji3 rfl rfl Tryz.underlying79 (.int .u64 0) 8 info92 rfl (by decide) (by omega) 0 (ok := fun _ => True) (okp := fun _ => True) rfl (fun _ hk => hk) trivial (od_) (Nat.le_trans (Nat.mul_le_mul_right _ (od_ : ji3.toNat ≤ 35184372088832)) (by omega)) (Below.refl _ _) (Nat.le_refl _) ?_; intro v151 w14 ho15 hb hg_ hnew_; clear hg_ hnew_; (first | rw [← Ny150.out] at ho15 | (simp only [Int.reduceToNat] at ho15; rw [← Ny150.out] at ho15)); have n0_ := Aside0.mk (Kd.R_lower (Kd.R_newM (M := fun k_ => (w.heap.size ≤ k_)) ho15 (below_size (hb3_ HB.out GE147.out GE148.out GE149.out)) (fun k_ h_ => h_)) (below_size (hb3_ HB.out GE147.out GE148.out GE149.out))); have n1_ := Aside0.mk (blk_below (g := gb147) (o := .cells #[.slice A0_0 l0_0.length c0_0] 81 (0, 0)) (ph_ BK147.out) hb); have n2_ := Aside0.mk (blk_below (g := gb148) (o := .cells #[.slice A1_0 l1_0.length c1_0] 81 (0, 0)) (ph_ BK148.out) hb); have n3_ := Aside0.mk (blk_below (g := gb149) (o := .cells #[.slice none 0 0] 81 (0, 0)) (ph_ BK149.out) hb); have n4_ := Aside0.mk (below_step (hb3_ HB.out GE147.out GE148.out GE149.out) hb); clear BK147; clear BK148; clear BK149; clear HB; have HO152 := n0_; have BK147 := n1_; have BK148 := n2_; have BK149 := n3_; have HB := n4_; clear n0_ n1_ n2_ n3_ n4_; clear hb ho15; obtain ⟨hcz16_0, hfz16_0⟩ := bx1 BK147.out))
   go_loopg [27] k (fun kq v27 w' => ∃ (x6_1 : List Int) (x27_1 : Int), v27 = .int .i64 x27_1 ∧ Aside0 (nat_Mul.l0 kq x6_1 l0_0 (l0_0.length : Int) x27_1 l1_0 = some (r1, r2)) ∧ Aside0 (kq ≤ k) ∧ Aside0 (Kd.R (Kd.int .u64) 92 w' w.heap.size (fun k_ => (w.heap.size ≤ k_)) v151 x6_1) ∧ Aside0 (w'.heap[gb147]? = some (.cells #[(.slice A0_0 l0_0.length c0_0)] 81 (0, 0))) ∧ Aside0 (w'.heap[gb148]? = some (.cells #[(.slice A1_0 l1_0.length c1_0)] 81 (0, 0))) ∧ Aside0 (w'.heap[gb149]? = some (.cells #[(.slice none 0 0)] 81 (0, 0))) ∧ Aside0 (Below w.heap.size w w'))
   case atStart => exact ⟨(y150), (0), (by first | rfl | (simp; done) | (simp [*]; done)), H', ⟨Nat.le_refl _⟩, ⟨by (with_reducible repeat (first | apply Kd.R_alloc | apply Kd.R_drewN | apply Kd.R_drew)); exact Kd.R_mono HO152.out (fun _ hk => hk.1)⟩, ⟨by (with_reducible repeat (first | refine blk_drewN ?_ _ | refine blk_drew ?_ | refine blk_alloc ?_ _)); exact BK147.out⟩, ⟨by (with_reducible repeat (first | refine blk_drewN ?_ _ | refine blk_drew ?_ | refine blk_alloc ?_ _)); exact BK148.out⟩, ⟨by (with_reducible repeat (first | refine blk_drewN ?_ _ | refine blk_drew ?_ | refine blk_alloc ?_ _)); exact BK149.out⟩, ⟨(hb3_ HB.out GE147.out GE148.out GE149.out)⟩⟩
   case round =>
    clear H'
    try clear c1
    try clear p2
    try clear c4
    try clear c4b0
    try clear c4b1
    try clear c5
    try clear c5b0
    try clear c5b1
    try clear p6
    try clear c9
    try clear c10
    try clear c12
    try clear c13
    try clear hcz11_0
    try clear hcz13_0
    try clear hcz16_0
    try clear hfz11_0
    try clear hfz13_0
    try clear hfz16_0
    obtain ⟨x6_1, x27_1, rfl, HA, HK1, HO_6, BK147, BK148, BK149, HB⟩ := hrel
    cases gk with
    | zero => exact absurd HA.out (by simp [nat_Mul.l0])
    | succ k1 =>
     have H := HA.out
     clear HA
     simp only [nat_Mul.l0] at H
     by_cases c17 : x27_1 < (l0_0.length : Int)
     ·rw [if_pos c17] at H
      have c17b0 : decide (x27_1 < (l0_0.length : Int)) = true := decide_eq_true c17
      clear c17
      by_cases c18 : 0 ≤ x27_1
      ·rw [if_pos c18] at H
       have c18b0 : decide (0 ≤ x27_1) = true := decide_eq_true c18
       clear c18
       by_cases c19 : x27_1 < (l0_0.length : Int)
       ·rw [if_pos c19] at H
        have c19b0 : decide (x27_1 < (l0_0.length : Int)) = true := decide_eq_true c19
        clear c19
        have H' := Aside0.mk H
        clear H
        have p157 : 0 ≤ (x27_1 : Int) := od_
        have q157 : x27_1 < (l0_0.length : Int) := od_
        obtain ⟨ad157, e157, hx157_0⟩ := Kd.at_int HR0_0.out x27_1 p157 q157
        cases e157
        replace hx157_0 := (HB.out.cell (World.block_lt_of_cell? w _ hx157_0)).trans hx157_0
        replace p157 := eq_true p157
        replace q157 := eq_true q157
        have hnb20 := NB148_147.out
        have hnc20 := NB147_148.out
        have hnb21 := NB148_149.out
        have hnc21 := NB149_148.out
        obtain ⟨hcz22_0, hfz22_0⟩ := bx1 BK148.out
        go_wp2
        go_loopg [9, 35] k1 (fun kq v9 v35 w' => ∃ (x6_2 : List Int) (x9_2 : Int) (x35_2 : Int), v9 = .int .u64 x9_2 ∧ v35 = .int .i64 x35_2 ∧ Aside0 (nat_Mul.l1 kq x6_2 x27_1 (rd l0_0 x27_1) x9_2 l0_0 (l0_0.length : Int) x27_1 l1_0 (l1_0.length : Int) x35_2 l1_0 = some (r1, r2)) ∧ Aside0 (kq ≤ k1) ∧ Aside0 (Kd.R (Kd.int .u64) 92 w' w.heap.size (fun k_ => (w.heap.size ≤ k_)) v151 x6_2) ∧ Aside0 (w'.heap[gb147]? = some (.cells #[(.slice (some ad157) l0_0.length c0_0)] 81 (0, 0))) ∧ Aside0 (w'.heap[gb148]? = some (.cells #[(.slice A1_0 l1_0.length c1_0)] 81 (0, 0))) ∧ Aside0 (w'.heap[gb149]? = some (.cells #[(.slice none 0 0)] 81 (0, 0))) ∧ Aside0 (Below w.heap.size w w'))
        case atStart => exact ⟨(x6_1), (0), (0), (by first | rfl | (simp; done) | (simp [*]; done)), (by first | rfl | (simp; done) | (simp [*]; done)), H', ⟨Nat.le_refl _⟩, ⟨by (with_reducible repeat (first | apply Kd.R_alloc | apply Kd.R_drewN | apply Kd.R_drew)); exact HO_6.out⟩, ⟨by (with_reducible repeat (first | refine blk_drewN ?_ _ | refine blk_drew ?_ | refine blk_alloc ?_ _)); exact BK147.out⟩, ⟨by (with_reducible repeat (first | refine blk_drewN ?_ _ | refine blk_drew ?_ | refine blk_alloc ?_ _)); exact BK148.out⟩, ⟨by (with_reducible repeat (first | refine blk_drewN ?_ _ | refine blk_drew ?_ | refine blk_alloc ?_ _)); exact BK149.out⟩, ⟨(hb3_ HB.out GE147.out GE148.out GE149.out)⟩⟩
        case round =>
         clear H'
         try clear c1
         try clear p1
         try clear q1
         try clear hx1
         try clear c2
         try clear p2
         try clear c4
         try clear c4b0
         try clear c4b1
         try clear c5
         try clear c5b0
         try clear c5b1
         try clear p6
         try clear c9
         try clear c10
         try clear c12
         try clear c13
         try clear p15
         try clear q15
         try clear hx15
         try clear c17
         try clear c17b0
         try clear c18
         try clear c18b0
         try clear c19
         try clear c19b0
         try clear c20
         try clear c21
         try clear hcz11_0
         try clear hcz13_0
         try clear hcz16_0
         try clear hcz22_0
         try clear hfz11_0
         try clear hfz13_0
         try clear hfz16_0
         try clear hfz22_0
         try clear hx157_0
         try clear p157
         try clear p2
         try clear p6
         try clear q157
         obtain ⟨x6_2, x9_2, x35_2, rfl, rfl, HA, HK2, HO_6, BK147, BK148, BK149, HB⟩ := hrel
         cases gk with
         | zero => exact absurd HA.out (by simp [nat_Mul.l1])
         | succ k2 =>
          have H := HA.out
          clear HA
          simp only [nat_Mul.l1] at H
          by_cases c23 : x35_2 < (l1_0.length : Int)
          ·rw [if_pos c23] at H
           have c23b0 : decide (x35_2 < (l1_0.length : Int)) = true := decide_eq_true c23
           clear c23
           by_cases c24 : 0 ≤ x35_2
           ·rw [if_pos c24] at H
            have c24b0 : decide (0 ≤ x35_2) = true := decide_eq_true c24
            clear c24
            by_cases c25 : x35_2 < (l1_0.length : Int)
            ·rw [if_pos c25] at H
             have c25b0 : decide (x35_2 < (l1_0.length : Int)) = true := decide_eq_true c25
             clear c25
             replace H := Option.bind_eq_some_iff.mp H
             obtain ⟨⟨t159, t160⟩, A260, H⟩ := H
             replace H : (if 0 ≤ (wrap64 (x27_1 + x35_2)) then (if (wrap64 (x27_1 + x35_2)) < (x6_2.length : Int) then ((limb_Add.f t160 (rd x6_2 (wrap64 (x27_1 + x35_2))) 0).bind fun bt162 => ((limb_Add.f bt162.1 x9_2 0).bind fun bt164 => (nat_Mul.l1 k2 (x6_2.set ((wrap64 (x27_1 + x35_2)) : Int).toNat bt164.1) x27_1 (rd l0_0 x27_1) (IntKind.u64.wrap ((IntKind.u64.wrap (t159 + bt162.2)) + bt164.2)) l0_0 (l0_0.length : Int) x27_1 l1_0 (l1_0.length : Int) (wrap64 (x35_2 + 1)) l1_0))) else (none)) else (none)) = some (r1, r2) := H
             have A26 := Aside0.mk A260
             clear A260
             obtain ⟨ji27, hji27⟩ : ∃ j_ : Int, (wrap64 (x27_1 + x35_2)) = j_ := ⟨_, rfl⟩
             replace H : (if 0 ≤ (ji27) then (if (ji27) < (x6_2.length : Int) then ((limb_Add.f t160 (rd x6_2 (ji27)) 0).bind fun bt162 => ((limb_Add.f bt162.1 x9_2 0).bind fun bt164 => (nat_Mul.l1 k2 (x6_2.set ((ji27) : Int).toNat bt164.1) x27_1 (rd l0_0 x27_1) (IntKind.u64.wrap ((IntKind.u64.wrap (t159 + bt162.2)) + bt164.2)) l0_0 (l0_0.length : Int) x27_1 l1_0 (l1_0.length : Int) (wrap64 (x35_2 + 1)) l1_0))) else (none)) else (none)) = some (r1, r2) := by first | (rw [hji27] at H; exact H) | (simp only [hji27] at H ⊢; exact H)
             (try rw [hji27] at A26)
             have hji27w : (IntKind.i64.wrap (x27_1 + x35_2)) = ji27 := (i64_w _).trans hji27
             by_cases c28 : 0 ≤ (ji27)
             ·rw [if_pos c28] at H
              have c28b0 : decide (0 ≤ (ji27)) = true := decide_eq_true c28
              clear c28
              by_cases c29 : (ji27) < (x6_2.length : Int)
              ·rw [if_pos c29] at H
               have c29b0 : decide ((ji27) < (x6_2.length : Int)) = true := decide_eq_true c29
               clear c29
               replace H := Option.bind_eq_some_iff.mp H
               obtain ⟨⟨t162, t163⟩, A300, H⟩ := H
               replace H : ((limb_Add.f t162 x9_2 0).bind fun bt164 => (nat_Mul.l1 k2 (x6_2.set ((ji27) : Int).toNat bt164.1) x27_1 (rd l0_0 x27_1) (IntKind.u64.wrap ((IntKind.u64.wrap (t159 + t163)) + bt164.2)) l0_0 (l0_0.length : Int) x27_1 l1_0 (l1_0.length : Int) (wrap64 (x35_2 + 1)) l1_0)) = some (r1, r2) := H
               have A30 := Aside0.mk A300
               clear A300
               replace H := Option.bind_eq_some_iff.mp H
               obtain ⟨⟨t164, t165⟩, A310, H⟩ := H
               replace H : (nat_Mul.l1 k2 (x6_2.set ((ji27) : Int).toNat t164) x27_1 (rd l0_0 x27_1) (IntKind.u64.wrap ((IntKind.u64.wrap (t159 + t163)) + t165)) l0_0 (l0_0.length : Int) x27_1 l1_0 (l1_0.length : Int) (wrap64 (x35_2 + 1)) l1_0) = some (r1, r2) := H
               have A31 := Aside0.mk A310
               clear A310
               obtain ⟨y166, hy166⟩ : ∃ y_ : List Int, y_ = (x6_2.set ((ji27) : Int).toNat t164) := ⟨_, rfl⟩
               replace H : (nat_Mul.l1 k2 y166 x27_1 (rd l0_0 x27_1) (IntKind.u64.wrap ((IntKind.u64.wrap (t159 + t163)) + t165)) l0_0 (l0_0.length : Int) x27_1 l1_0 (l1_0.length : Int) (wrap64 (x35_2 + 1)) l1_0) = some (r1, r2) := by first | (rw [hy166]; with_reducible exact H) | (have H2_ := (Option.bind_some _ _).symm.trans H; rw [hy166]; with_reducible exact H2_) | (have H2_ := (Option.bind_some _ _).symm.trans H; with_reducible exact H2_) | with_reducible exact H | (rw [hy166]; exact H) | exact H
               have Ny166 := Aside0.mk hy166
               clear hy166
               have H' := Aside0.mk H
               clear H
               have p158 : 0 ≤ (x35_2 : Int) := od_
               have q158 : x35_2 < (l1_0.length : Int) := od_
               obtain ⟨ad158, e158, hx158_0⟩ := Kd.at_int HR1_0.out x35_2 p158 q158
               cases e158
               replace hx158_0 := (HB.out.cell (World.block_lt_of_cell? w _ hx158_0)).trans hx158_0
               replace p158 := eq_true p158
               replace q158 := eq_true q158
               go_wp2_with (first | ((with_reducible refine gate_callee (f := 156) rfl ?_); refine goesL_ (some 43) rfl rfl Tryz.func156 (by kernel_rfl) rfl #[.int .u64 (rd l0_0 x27_1), .int .u64 (rd l1_0 x35_2)] rfl (by (try simp only [List.map_toArray, List.map_cons, List.map_nil]); first | done | rfl | (simp only [List.length_drop, List.length_take]; rfl)) ?_; (with_reducible refine (limb_Mul.calls (rd l0_0 x27_1) (rd l1_0 x35_2) t159 t160 _ A26.out).mono ?_); rintro e w' ⟨rfl, ⟨nd, rfl⟩⟩; refine ⟨_, rfl, ?_⟩; (try (rw [drewN_self wr]; generalize hq_ : World.drewN wr _ = wr; have n0_ : Aside0 (Kd.R (Kd.int .u64) 92 wr w.heap.size (fun k_ => (w.heap.size ≤ k_)) v151 x6_2) := ⟨by rw [← hq_]; exact (by (with_reducible repeat (first | apply Kd.R_alloc | apply Kd.R_drewN | apply Kd.R_drew)); exact HO_6.out)⟩; have n1_ : Aside0 (wr.heap[gb147]? = some (.cells #[.slice (some ad157) l0_0.length c0_0] 81 (0, 0))) := ⟨by rw [← hq_]; exact (ph_ BK147.out)⟩; have n2_ : Aside0 (wr.heap[gb148]? = some (.cells #[.slice (some ad158) l1_0.length c1_0] 81 (0, 0))) := ⟨by rw [← hq_]; exact (ph_ BK148.out)⟩; have n3_ : Aside0 (wr.heap[gb149]? = some (.cells #[.slice none 0 0] 81 (0, 0))) := ⟨by rw [← hq_]; exact (ph_ BK149.out)⟩; have n4_ : Aside0 (Below w.heap.size w wr) := ⟨by rw [← hq_]; exact (hb3_ HB.out GE147.out GE148.out GE149.out)⟩; clear HO_6 BK147 BK148 BK149 HB hq_; have HO_6 := n0_; have BK147 := n1_; have BK148 := n2_; have BK149 := n3_; have HB := n4_; clear n0_ n1_ n2_ n3_ n4_)); obtain ⟨Ao33, co33, eo33⟩ := Kd.R_slice HO_6.out; subst eo33; have p161 : 0 ≤ ((ji27) : Int) := od_; have q161 : (ji27) < (x6_2.length : Int) := od_; obtain ⟨ad161, e161, hx161_0⟩ := Kd.at_int (Kd.R_reads' HO_6.out).2.2 (ji27) p161 q161; cases e161; replace p161 := eq_true p161; replace q161 := eq_true q161) | ((with_reducible refine gate_callee (f := 157) rfl ?_); refine goesL_ (some 54) rfl rfl Tryz.func157 (by kernel_rfl) rfl #[.int .u64 t160, .int .u64 (rd x6_2 (ji27)), .int .u64 0] rfl (by (try simp only [List.map_toArray, List.map_cons, List.map_nil]); first | done | (simp only [hji27]; rfl) | rfl | (simp only [List.length_drop, List.length_take]; rfl)) ?_; (with_reducible refine (limb_Add.calls t160 (rd x6_2 (ji27)) 0 t162 t163 _ A30.out).mono ?_); rintro e w' ⟨rfl, ⟨nd, rfl⟩⟩; refine ⟨_, rfl, ?_⟩; (try (rw [drewN_self wr]; generalize hq_ : World.drewN wr _ = wr; have n0_ : Aside0 (Kd.R (Kd.int .u64) 92 wr w.heap.size (fun k_ => (w.heap.size ≤ k_)) (.slice (some ad161) x6_2.length co33) x6_2) := ⟨by rw [← hq_]; exact (by (with_reducible repeat (first | apply Kd.R_alloc | apply Kd.R_drewN | apply Kd.R_drew)); exact HO_6.out)⟩; have n1_ : Aside0 (wr.heap[gb147]? = some (.cells #[.slice (some ad157) l0_0.length c0_0] 81 (0, 0))) := ⟨by rw [← hq_]; exact (ph_ BK147.out)⟩; have n2_ : Aside0 (wr.heap[gb148]? = some (.cells #[.slice (some ad158) l1_0.length c1_0] 81 (0, 0))) := ⟨by rw [← hq_]; exact (ph_ BK148.out)⟩; have n3_ : Aside0 (wr.heap[gb149]? = some (.cells #[.slice none 0 0] 81 (0, 0))) := ⟨by rw [← hq_]; exact (ph_ BK149.out)⟩; have n4_ : Aside0 (Below w.heap.size w wr) := ⟨by rw [← hq_]; exact (hb3_ HB.out GE147.out GE148.out GE149.out)⟩; clear HO_6 BK147 BK148 BK149 HB hq_; have HO_6 := n0_; have BK147 := n1_; have BK148 := n2_; have BK149 := n3_; have HB := n4_; clear n0_ n1_ n2_ n3_ n4_))) | ((with_reducible refine gate_callee (f := 157) rfl ?_); refine goesL_ (some 60) rfl rfl Tryz.func157 (by kernel_rfl) rfl #[.int .u64 t162, .int .u64 x9_2, .int .u64 0] rfl (by (try simp only [List.map_toArray, List.map_cons, List.map_nil]); first | done | rfl | (simp only [List.length_drop, List.length_take]; rfl)) ?_; (with_reducible refine (limb_Add.calls t162 x9_2 0 t164 t165 _ A31.out).mono ?_); rintro e w' ⟨rfl, ⟨nd, rfl⟩⟩; refine ⟨_, rfl, ?_⟩; (try (rw [drewN_self wr]; generalize hq_ : World.drewN wr _ = wr; have n0_ : Aside0 (Kd.R (Kd.int .u64) 92 wr w.heap.size (fun k_ => (w.heap.size ≤ k_)) (.slice (some ad161) x6_2.length co33) x6_2) := ⟨by rw [← hq_]; exact (by (with_reducible repeat (first | apply Kd.R_alloc | apply Kd.R_drewN | apply Kd.R_drew)); exact HO_6.out)⟩; have n1_ : Aside0 (wr.heap[gb147]? = some (.cells #[.slice (some ad157) l0_0.length c0_0] 81 (0, 0))) := ⟨by rw [← hq_]; exact (ph_ BK147.out)⟩; have n2_ : Aside0 (wr.heap[gb148]? = some (.cells #[.slice (some ad158) l1_0.length c1_0] 81 (0, 0))) := ⟨by rw [← hq_]; exact (ph_ BK148.out)⟩; have n3_ : Aside0 (wr.heap[gb149]? = some (.cells #[.slice none 0 0] 81 (0, 0))) := ⟨by rw [← hq_]; exact (ph_ BK149.out)⟩; have n4_ : Aside0 (Below w.heap.size w wr) := ⟨by rw [← hq_]; exact (hb3_ HB.out GE147.out GE148.out GE149.out)⟩; clear HO_6 BK147 BK148 BK149 HB hq_; have HO_6 := n0_; have BK147 := n1_; have BK148 := n2_; have BK149 := n3_; have HB := n4_; clear n0_ n1_ n2_ n3_ n4_)); have p32 : 0 ≤ ((ji27) : Int) := od_; have q32 : ((ji27) : Int) < ((x6_2.length : Int) : Int) := od_; obtain ⟨go32, co32, eo32, gb32, gl32, cl32, HG32⟩ := Kd.R_form HO_6.out (by omega); (first | cases eo32 | (injection eo32 with ea_ en_ ec_; (first | subst ea_ | (injection ea_ with ea_; subst ea_)); subst ec_; clear en_)); have GB32 := Aside0.mk gb32; have GG32 := Aside0.mk HG32; clear gb32 gl32 HG32; (first | simp only [add_plain] at hx161_0 | skip); obtain ⟨hx32_0, hf32_0⟩ := Kd.R_celln 0 HO_6.out ((ji27) : Int) p32 q32; replace p32 := eq_true p32; replace q32 := eq_true q32; obtain ⟨hy34_, hz34_⟩ := Kd.R_celln 0 HO_6.out ((ji27) : Int) (od_) (od_); have HP34 := Kd.R_putg HO_6.out ((ji27) : Int) t164) | ((with_reducible refine gate_store (t := 92) (p := 73) rfl ?_); refine store_event (t := 92) (p := 73) (v := ?vo_w35) (w1 := (wr.setCell ⟨go32, ((ji27) : Int).toNat, none⟩ (.int .u64 t164))) ?hg ?ho ?hn ?hr ?_; (case ho => rfl); (case hg => rfl); (case hn => rfl); (case hr => first | (go_simp; done) | (go_simp; rfl)); intro w35 hw; have hg : wr.grownBy w35 (some go32) := (by rw [hw]; exact HP34.2); have hp_ : Kd.R (Kd.int .u64) 92 w35 w.heap.size (fun k_ => (w.heap.size ≤ k_)) (.slice (some ⟨go32, 0, none⟩) x6_2.length co33) y166 := (by rw [hw, Ny166.out]; exact HP34.1); clear HP34; have n0_ := Aside0.mk (hp_); have n1_ := Aside0.mk (blk_grown (g := gb147) (o := .cells #[.slice (some ad157) l0_0.length c0_0] 81 (0, 0)) (ph_ BK147.out) hg (Kd.R_ne HO_6.out BK147.out (by decide))); have n2_ := Aside0.mk (blk_grown (g := gb148) (o := .cells #[.slice (some ad158) l1_0.length c1_0] 81 (0, 0)) (ph_ BK148.out) hg (Kd.R_ne HO_6.out BK148.out (by decide))); have n3_ := Aside0.mk (blk_grown (g := gb149) (o := .cells #[.slice none 0 0] 81 (0, 0)) (ph_ BK149.out) hg (Kd.R_ne HO_6.out BK149.out (by decide))); have n4_ := Aside0.mk ((by rw [hw]; exact below_set (HB.out) GB32.out : Below w.heap.size w w35)); clear HO_6; clear BK147; clear BK148; clear BK149; clear HB; have HO_6 := n0_; have BK147 := n1_; have BK148 := n2_; have BK149 := n3_; have HB := n4_; clear n0_ n1_ n2_ n3_ n4_; clear hg hw hp_))
               go_roundg k2
               case measure => have := HK1.out; have := HK2.out; omega
               case rel => exact ⟨(y166), (IntKind.u64.wrap ((IntKind.u64.wrap (t159 + t163)) + t165)), (wrap64 (x35_2 + 1)), (by first | rfl | (simp; done) | (simp [*]; done)), (by first | rfl | (simp; done) | (simp [*]; done)), H', ⟨by have := HK1.out; have := HK2.out; omega⟩, ⟨by (with_reducible repeat (first | apply Kd.R_alloc | apply Kd.R_drewN | apply Kd.R_drew)); exact HO_6.out⟩, ⟨by (with_reducible repeat (first | refine blk_drewN ?_ _ | refine blk_drew ?_ | refine blk_alloc ?_ _)); exact BK147.out⟩, ⟨by (with_reducible repeat (first | refine blk_drewN ?_ _ | refine blk_drew ?_ | refine blk_alloc ?_ _)); exact BK148.out⟩, ⟨by (with_reducible repeat (first | refine blk_drewN ?_ _ | refine blk_drew ?_ | refine blk_alloc ?_ _)); exact BK149.out⟩, ⟨(hb3_ HB.out GE147.out GE148.out GE149.out)⟩⟩
              ·rw [if_neg c29] at H
               exact absurd H (by simp)
             ·rw [if_neg c28] at H
              exact absurd H (by simp)
            ·rw [if_neg c25] at H
             exact absurd H (by simp)
           ·rw [if_neg c24] at H
            exact absurd H (by simp)
          ·rw [if_neg c23] at H
           have c23b0 : decide (x35_2 < (l1_0.length : Int)) = false := decide_eq_false c23
           clear c23
           obtain ⟨ji36, hji36⟩ : ∃ j_ : Int, (wrap64 (x27_1 + (l1_0.length : Int))) = j_ := ⟨_, rfl⟩
           replace H : (if 0 ≤ (ji36) then (if (ji36) < (x6_2.length : Int) then (nat_Mul.l0 k2 (x6_2.set ((ji36) : Int).toNat x9_2) l0_0 (l0_0.length : Int) (wrap64 (x27_1 + 1)) l1_0) else (none)) else (none)) = some (r1, r2) := by first | (rw [hji36] at H; exact H) | (simp only [hji36] at H ⊢; exact H)
           have hji36w : (IntKind.i64.wrap (x27_1 + (l1_0.length : Int))) = ji36 := (i64_w _).trans hji36
           by_cases c37 : 0 ≤ (ji36)
           ·rw [if_pos c37] at H
            have c37b0 : decide (0 ≤ (ji36)) = true := decide_eq_true c37
            clear c37
            by_cases c38 : (ji36) < (x6_2.length : Int)
            ·rw [if_pos c38] at H
             have c38b0 : decide ((ji36) < (x6_2.length : Int)) = true := decide_eq_true c38
             clear c38
             obtain ⟨y167, hy167⟩ : ∃ y_ : List Int, y_ = (x6_2.set ((ji36) : Int).toNat x9_2) := ⟨_, rfl⟩
             replace H : (nat_Mul.l0 k2 y167 l0_0 (l0_0.length : Int) (wrap64 (x27_1 + 1)) l1_0) = some (r1, r2) := by first | (rw [hy167]; with_reducible exact H) | (have H2_ := (Option.bind_some _ _).symm.trans H; rw [hy167]; with_reducible exact H2_) | (have H2_ := (Option.bind_some _ _).symm.trans H; with_reducible exact H2_) | with_reducible exact H | (rw [hy167]; exact H) | exact H
             have Ny167 := Aside0.mk hy167
             clear hy167
             have H' := Aside0.mk H
             clear H
             have hnb40 := NB148_147.out
             have hnc40 := NB147_148.out
             have hnb41 := NB148_149.out
             have hnc41 := NB149_148.out
             obtain ⟨hcz42_0, hfz42_0⟩ := bx1 BK148.out
             have p39 : 0 ≤ ((ji36) : Int) := od_
             have q39 : ((ji36) : Int) < ((x6_2.length : Int) : Int) := od_
             obtain ⟨go39, co39, eo39, gb39, gl39, cl39, HG39⟩ := Kd.R_form HO_6.out (by omega)
             (first | cases eo39 | (injection eo39 with ea_ en_ ec_; (first | subst ea_ | (injection ea_ with ea_; subst ea_)); subst ec_; clear en_))
             have GB39 := Aside0.mk gb39
             have GG39 := Aside0.mk HG39
             clear gb39 gl39 HG39
             obtain ⟨hx39_0, hf39_0⟩ := Kd.R_celln 0 HO_6.out ((ji36) : Int) p39 q39
             replace p39 := eq_true p39
             replace q39 := eq_true q39
             have HP43 := Kd.R_putg HO_6.out ((ji36) : Int) x9_2
             go_wp2_with (first | ((with_reducible refine gate_store (t := 92) (p := 82) rfl ?_); refine store_event (t := 92) (p := 82) (v := ?vo_w44) (w1 := (wr.setCell ⟨go39, ((ji36) : Int).toNat, none⟩ (.int .u64 x9_2))) ?hg ?ho ?hn ?hr ?_; (case ho => rfl); (case hg => rfl); (case hn => rfl); (case hr => first | (go_simp; done) | (go_simp; rfl)); intro w44 hw; have hg : wr.grownBy w44 (some go39) := (by rw [hw]; exact HP43.2); have hp_ : Kd.R (Kd.int .u64) 92 w44 w.heap.size (fun k_ => (w.heap.size ≤ k_)) (.slice (some ⟨go39, 0, none⟩) x6_2.length co39) y167 := (by rw [hw, Ny167.out]; exact HP43.1); clear HP43; have n0_ := Aside0.mk (hp_); have n1_ := Aside0.mk (blk_grown (g := gb147) (o := .cells #[.slice (some ad157) l0_0.length c0_0] 81 (0, 0)) (ph_ BK147.out) hg (Kd.R_ne HO_6.out BK147.out (by decide))); have n2_ := Aside0.mk (blk_grown (g := gb148) (o := .cells #[.slice A1_0 l1_0.length c1_0] 81 (0, 0)) (ph_ BK148.out) hg (Kd.R_ne HO_6.out BK148.out (by decide))); have n3_ := Aside0.mk (blk_grown (g := gb149) (o := .cells #[.slice none 0 0] 81 (0, 0)) (ph_ BK149.out) hg (Kd.R_ne HO_6.out BK149.out (by decide))); have n4_ := Aside0.mk ((by rw [hw]; exact below_set (HB.out) GB39.out : Below w.heap.size w w44)); clear HO_6; clear BK147; clear BK148; clear BK149; clear HB; have HO_6 := n0_; have BK147 := n1_; have BK148 := n2_; have BK149 := n3_; have HB := n4_; clear n0_ n1_ n2_ n3_ n4_; clear hg hw hp_))
             go_roundg k2
             case measure => have := HK1.out; have := HK2.out; omega
             case rel => exact ⟨(y167), (wrap64 (x27_1 + 1)), (by first | rfl | (simp; done) | (simp [*]; done)), H', ⟨by have := HK1.out; have := HK2.out; omega⟩, ⟨by (with_reducible repeat (first | apply Kd.R_alloc | apply Kd.R_drewN | apply Kd.R_drew)); exact HO_6.out⟩, ⟨by (with_reducible repeat (first | refine blk_drewN ?_ _ | refine blk_drew ?_ | refine blk_alloc ?_ _)); exact BK147.out⟩, ⟨by (with_reducible repeat (first | refine blk_drewN ?_ _ | refine blk_drew ?_ | refine blk_alloc ?_ _)); exact BK148.out⟩, ⟨by (with_reducible repeat (first | refine blk_drewN ?_ _ | refine blk_drew ?_ | refine blk_alloc ?_ _)); exact BK149.out⟩, ⟨(hb3_ HB.out GE147.out GE148.out GE149.out)⟩⟩
            ·rw [if_neg c38] at H
             exact absurd H (by simp)
           ·rw [if_neg c37] at H
            exact absurd H (by simp)
       ·rw [if_neg c19] at H
        exact absurd H (by simp)
      ·rw [if_neg c18] at H
       exact absurd H (by simp)
     ·rw [if_neg c17] at H
      have c17b0 : decide (x27_1 < (l0_0.length : Int)) = false := decide_eq_false c17
      clear c17
      replace H := Option.bind_eq_some_iff.mp H
      obtain ⟨⟨t153, t156⟩, A450, H⟩ := H
      replace H : (some (t153, t156)) = some (r1, r2) := H
      have A45 := Aside0.mk A450
      clear A450
      simp only [Option.some.injEq, Prod.mk.injEq] at H
      obtain ⟨rfl, rfl⟩ := H
      obtain ⟨Ao46, co46, eo46⟩ := Kd.R_slice HO_6.out
      subst eo46
      go_wp2_with (first | ((with_reducible refine gate_callee (f := 147) rfl ?_); refine goesL_ (some 85) rfl rfl Tryz.func147 (by kernel_rfl) rfl #[.slice Ao46 x6_1.length co46] rfl (by (try simp only [List.map_toArray, List.map_cons, List.map_nil]); first | done | rfl | (simp only [List.length_drop, List.length_take]; rfl)) ?_; (with_reducible refine (nat_held.calls (fun k_ => some k_ = (.slice Ao46 x6_1.length co46 : Value).ownBlock) _ _ x6_1 t153 t156 _ ?side1 A45.out).mono ?_); (case side1 => exact Kd.R_V (Kd.R_tight rfl (Kd.R_types (Kd.R_types (Kd.R_types (HO_6.out) BK147.out (by decide)) BK148.out (by decide)) BK149.out (by decide)))); rintro e w47 ⟨v154, rfl, ho0, hb⟩; refine ⟨_, rfl, ?_⟩; have n0_ := Aside0.mk (Kd.R_below (by (with_reducible repeat (first | apply Kd.R_alloc | apply Kd.R_drewN | apply Kd.R_drew)); exact HO_6.out) hb); have n1_ := Aside0.mk (Kd.V_lower (Kd.V_mono (ok' := fun k_ => (w.heap.size ≤ k_) ∧ k_ ≠ gb147 ∧ k_ ≠ gb148 ∧ k_ ≠ gb149) ho0 (fun k_ hk_ => ⟨Or.elim hk_ (fun hs_ => ((Kd.R_types (Kd.R_types (Kd.R_types (HO_6.out) BK147.out (by decide)) BK148.out (by decide)) BK149.out (by decide)).1 k_ hs_.symm).1.1.1) (fun hn_ => (Nat.le_trans (below_size (hb3_ HB.out GE147.out GE148.out GE149.out)) hn_)), Or.elim hk_ (fun hs_ => ((Kd.R_types (Kd.R_types (Kd.R_types (HO_6.out) BK147.out (by decide)) BK148.out (by decide)) BK149.out (by decide)).1 k_ hs_.symm).1.1.2) (fun hn_ => (Kd.freshB (g := gb147) (o := .cells #[.slice A0_0 l0_0.length c0_0] 81 (0, 0)) (ph_ BK147.out) k_ hn_)), Or.elim hk_ (fun hs_ => ((Kd.R_types (Kd.R_types (Kd.R_types (HO_6.out) BK147.out (by decide)) BK148.out (by decide)) BK149.out (by decide)).1 k_ hs_.symm).1.2) (fun hn_ => (Kd.freshB (g := gb148) (o := .cells #[.slice A1_0 l1_0.length c1_0] 81 (0, 0)) (ph_ BK148.out) k_ hn_)), Or.elim hk_ (fun hs_ => ((Kd.R_types (Kd.R_types (Kd.R_types (HO_6.out) BK147.out (by decide)) BK148.out (by decide)) BK149.out (by decide)).1 k_ hs_.symm).2) (fun hn_ => (Kd.freshB (g := gb149) (o := .cells #[.slice none 0 0] 81 (0, 0)) (ph_ BK149.out) k_ hn_))⟩)) (below_size (hb3_ HB.out GE147.out GE148.out GE149.out))); have n2_ := Aside0.mk (blk_below (g := gb147) (o := .cells #[.slice A0_0 l0_0.length c0_0] 81 (0, 0)) (ph_ BK147.out) hb); have n3_ := Aside0.mk (blk_below (g := gb148) (o := .cells #[.slice A1_0 l1_0.length c1_0] 81 (0, 0)) (ph_ BK148.out) hb); have n4_ := Aside0.mk (blk_below (g := gb149) (o := .cells #[.slice none 0 0] 81 (0, 0)) (ph_ BK149.out) hb); have n5_ := Aside0.mk (below_step (hb3_ HB.out GE147.out GE148.out GE149.out) hb); clear HO_6; clear BK147; clear BK148; clear BK149; clear HB; have HO_6 := n0_; have HO155 := n1_; have BK147 := n2_; have BK148 := n3_; have BK149 := n4_; have HB := n5_; clear n0_ n1_ n2_ n3_ n4_ n5_; (try clear hb); (try clear hb2); (try clear hk); (try clear hi); (try clear ho0); obtain ⟨Ao48, co48, eo48⟩ := Kd.V_slice HO155.out; subst eo48; have hnb49 := NB149_147.out; have hnc49 := NB147_149.out; have hnb50 := NB149_148.out; have hnc50 := NB148_149.out; obtain ⟨hcz51_0, hfz51_0⟩ := bx1 BK149.out))
      refine bodyPost_ret (results_ct rfl _ _ gb149 81 #[.slice Ao48 t153.length co48] (0, 0) _ rfl (by (with_reducible repeat (first | refine blk_drewN ?_ _ | refine blk_drew ?_ | refine blk_alloc ?_ _)); refine blk_put (cs := #[.slice none 0 0]) ?_ 0 _ rfl; (with_reducible repeat (first | refine blk_drewN ?_ _ | refine blk_drew ?_ | refine blk_alloc ?_ _)); exact BK149.out) Tryz.underlying81 rfl (by kernel_rfl)) rfl ?_
      exact ⟨_, by first | rfl | (simp [errW_none, errW_some] <;> rfl) | (simp only [← hji3]; first | rfl | (simp [errW_none, errW_some] <;> rfl)) | (simp [*, errW_none, errW_some] <;> rfl), by (with_reducible repeat (first | apply Kd.V_alloc | apply Kd.V_drewN | apply Kd.V_drew)); exact Kd.V_mono (Kd.V_far (p := ⟨gb149, 0, none⟩) (Kd.V_mono HO155.out (fun k_ hk => (⟨hk, hk.2.2.2⟩ : _ ∧ k_ ≠ gb149))) (fun _ hk => hk.2) (.slice Ao48 t153.length co48)) (fun _ hk => hk.1.1), (hb3_ HB.out GE147.out GE148.out GE149.out)⟩
  ·rw [if_neg c5] at H
   exact absurd H (by simp)
 ·rw [if_neg c4] at H
  exact absurd H (by simp)
end Go.Proofs.YtlboolhjfffppaaGreatDoor.PBLI
