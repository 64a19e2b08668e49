-- Written by this session's program (wip/tools/pr.py over the kit's print).
import Derived.Test.YtcljnjnlafkieaaGreatDoorRPh
import Derived.Test.YtcljnjnlafkieaaGreatDoorRPPLAx0
import Derived.Test.YtcljnjnlafkieaaGreatDoorRPPLAx9
import Derived.Test.YtcljnjnlafkieaaGreatDoorRPPLAx13
namespace Go.Proofs.YtcljnjnlafkieaaGreatDoorR.PPLA
open Go.RowKit Go.Proofs.YtcljnjnlafkieaaGreatDoorRW.PrintWords Go.Proofs.YtcljnjnlafkieaaGreatDoorRW.PrintLast Go.Proofs.YtcljnjnlafkieaaGreatDoorRW.PrintMore
attribute [local go_sem] max2_int min2_int max_two min_two max_three min_three max_four min_four
set_option linter.unusedVariables false
set_option linter.unusedSimpArgs false
def m14_3 : Array Bool := #[true, true, true, true, true, true, true, true, false, false]
def m14_7 : Array Bool := #[true, true, true, false, false, false, false, true, false, false]
def m14_11 : Array Bool := #[true, true, true, true, false, false, false, true, false, false]
def m14_12 : Array Bool := #[true, true, true, true, true, false, false, true, false, false]
def m14_13 : Array Bool := #[true, true, true, true, true, true, false, true, false, false]
def rat_scaled.f (k : Nat) (a0_0 : Bool) (l0_1 : List Int) (l1_0 : List Int) : Option (Bool × List Int) := (whole_New.f false l1_0).bind fun bt204 => ((whole_Mul.f k a0_0 l0_1 bt204.1 bt204.2).bind fun bt208 => (some (bt208.1, bt208.2.1)))
def rat_scaled.T1 : Bool × List (List Nat × List Nat) := (true, [([], []), ([], []), ([1], [1]), ([0, 2, 2], [0, 2]), ([3], [3]), ([4], [4]), ([4], [4]), ([], []), ([7, 5, 3, 0, 1, 2, 3, 4, 5, 7], [5, 7]), ([6, 8, 0, 1, 2, 3, 4, 5, 6, 7, 8], [6])])
def rat_scaled.B1 : List Nat := [0, 0, 2, 7, 15, 31, 31, 0, 191, 511]
theorem rat_scaled.tab1 : rtab .any (opsOf Tryz.f81 1) = rat_scaled.T1 := by kernel_rfl
theorem rat_scaled.bits1 : waitsOk rat_scaled.T1.2 rat_scaled.B1 = true := by kernel_rfl
set_option maxHeartbeats 8000000 in
set_option maxRecDepth 100000 in
theorem rat_scaled.calls (k : Nat) (a0_0 : Bool) (A0_1 : Option Addr) (c0_1 : Nat) (l0_1 : List Int) (P1_0_ : Nat → Prop) (A1_0 : Option Addr) (c1_0 : Nat) (l1_0 : List Int) (r1 : Bool) (r2 : List Int) (w : World) (hr0_1 : Kd.C (Kd.int .u64) w A0_1 l0_1.length l0_1) (hc0_1 : l0_1.length ≤ c0_1) (hs1_0 : Kd.V (Kd.int .u64) 89 w w.heap.size (fun k_ => P1_0_ k_) (.slice A1_0 l1_0.length c1_0) l1_0) (h : rat_scaled.f k a0_0 l0_1 l1_0 = some (r1, r2)) :
  Calls Tryz.prog 81 #[.agg #[.bool a0_0, .slice A0_1 l0_1.length c0_1], .agg #[.slice A1_0 l1_0.length c1_0]] w fun e w' => ∃ v1_ : Value, e = .returned (.agg #[.bool r1, v1_]) ∧ Kd.V (Kd.int .u64) 89 w' w.heap.size (fun k_ => (P1_0_ k_ ∨ w.heap.size ≤ k_)) v1_ r2 ∧ Below w.heap.size w w' := by
 have hu99 := Tryz.underlying99
 have hu97 := Tryz.underlying97
 have HR0_1 := Aside0.mk hr0_1
 have HC0_1 := Aside0.mk hc0_1
 clear hr0_1 hc0_1
 have HO1_0 := Aside0.mk (show Kd.V (Kd.int .u64) 89 w w.heap.size (fun k_ => (P1_0_ k_ ∨ w.heap.size ≤ k_)) (.slice A1_0 l1_0.length c1_0) l1_0 from Kd.V_mono hs1_0 (fun k_ hk => .inl hk))
 have HB := Aside0.mk (Below.refl w.heap.size w)
 have H : ((whole_New.f false l1_0).bind fun bt204 => ((whole_Mul.f k a0_0 l0_1 bt204.1 bt204.2).bind fun bt208 => (some (bt208.1, bt208.2.1)))) = some (r1, r2) := h
 clear h
 replace H := Option.bind_eq_some_iff.mp H
 obtain ⟨⟨t204, t205⟩, A30, H⟩ := H
 replace H : ((whole_Mul.f k a0_0 l0_1 t204 t205).bind fun bt208 => (some (bt208.1, bt208.2.1))) = some (r1, r2) := H
 have A3 := Aside0.mk A30
 clear A30
 replace H := Option.bind_eq_some_iff.mp H
 obtain ⟨⟨t208, t209, t212⟩, A40, H⟩ := H
 replace H : (some (t208, t209)) = some (r1, r2) := H
 have A4 := Aside0.mk A40
 clear A40
 simp only [Option.some.injEq, Prod.mk.injEq] at H
 obtain ⟨rfl, rfl⟩ := H
 go_enter Tryz.func81, Tryz.ntmps81
 try go_wp2_with (first | ((with_reducible refine gate_dst (N := 2) rfl ?_); refine box_event ?hg (N := 2) ?hd (cs := #[.bool a0_0, .slice A0_1 l0_1.length c0_1]) (t := 99) ?hr ?_; (case hd => rfl); (case hg => rfl); (case hr => first | (go_simp; done) | (go_simp; rfl)); intro gb201 hg w5 hbox hb; have n0_ := Aside0.mk (Kd.V_below (Kd.V_elderB (by (with_reducible repeat (first | apply Kd.V_alloc | apply Kd.V_drewN | apply Kd.V_drew)); exact HO1_0.out) gb201 (Nat.le_of_eq hg.symm)) hb); have n1_ := Aside0.mk (below_step (hb0_ HB.out) hb); have n2_ := Aside0.mk (hbox); have n3_ := Aside0.mk ((by rw [hg]; exact (below_size (hb0_ HB.out)) : w.heap.size ≤ gb201)); have n4_ := Aside0.mk ((by rw [hg]; exact (below_size (hb0_ HB.out)) : w.heap.size ≤ gb201)); clear HO1_0; clear HB; have HO1_0 := n0_; have HB := n1_; have BK201 := n2_; have GW201 := n3_; have GE201 := n4_; clear n0_ n1_ n2_ n3_ n4_; clear hb hbox hg) | ((with_reducible refine gate_dst (N := 3) rfl ?_); refine box_event ?hg (N := 3) ?hd (cs := #[.slice A1_0 l1_0.length c1_0]) (t := 97) ?hr ?_; (case hd => rfl); (case hg => rfl); (case hr => first | (go_simp; done) | (go_simp; rfl)); intro gb202 hg w6 hbox hb; have n0_ := Aside0.mk (Kd.V_below (Kd.V_elderB (by (with_reducible repeat (first | apply Kd.V_alloc | apply Kd.V_drewN | apply Kd.V_drew)); exact HO1_0.out) gb202 (Nat.le_of_eq hg.symm)) hb); have n1_ := Aside0.mk (blk_below (g := gb201) (o := .cells #[.bool a0_0, .slice A0_1 l0_1.length c0_1] 99 (0, 0)) (ph_ BK201.out) hb); have n2_ := Aside0.mk (below_step (hb1_ HB.out GE201.out) hb); have n3_ := Aside0.mk (hbox); have n4_ := Aside0.mk ((by rw [hg]; exact (below_size (hb1_ HB.out GE201.out)) : w.heap.size ≤ gb202)); have n5_ := n4_; have n6_ := Aside0.mk ((by rw [hg]; exact Nat.ne_of_lt (blk_lt (g := gb201) (o := .cells #[.bool a0_0, .slice A0_1 l0_1.length c0_1] 99 (0, 0)) (ph_ BK201.out)) : gb201 ≠ gb202)); have n7_ := Aside0.mk ((by rw [hg]; exact Nat.ne_of_gt (blk_lt (g := gb201) (o := .cells #[.bool a0_0, .slice A0_1 l0_1.length c0_1] 99 (0, 0)) (ph_ BK201.out)) : gb202 ≠ gb201)); clear HO1_0; clear BK201; clear HB; have HO1_0 := n0_; have BK201 := n1_; have HB := n2_; have BK202 := n3_; have GW202 := n4_; have GE202 := n5_; have NB201_202 := n6_; have NB202_201 := n7_; clear n0_ n1_ n2_ n3_ n4_ n5_ n6_ n7_; clear hb hbox hg) | ((with_reducible refine gate_dst (N := 4) rfl ?_); refine box_event ?hg (N := 4) ?hd (cs := #[.bool false, .slice none 0 0]) (t := 99) ?hr ?_; (case hd => rfl); (case hg => rfl); (case hr => first | (go_simp; done) | (go_simp; rfl)); intro gb203 hg w7 hbox hb; have n0_ := Aside0.mk (Kd.V_below (Kd.V_elderB (by (with_reducible repeat (first | apply Kd.V_alloc | apply Kd.V_drewN | apply Kd.V_drew)); exact HO1_0.out) gb203 (Nat.le_of_eq hg.symm)) hb); have n1_ := Aside0.mk (blk_below (g := gb201) (o := .cells #[.bool a0_0, .slice A0_1 l0_1.length c0_1] 99 (0, 0)) (ph_ BK201.out) hb); have n2_ := Aside0.mk (blk_below (g := gb202) (o := .cells #[.slice A1_0 l1_0.length c1_0] 97 (0, 0)) (ph_ BK202.out) hb); have n3_ := Aside0.mk (below_step (hb2_ HB.out GE201.out GE202.out) hb); have n4_ := Aside0.mk (hbox); have n5_ := Aside0.mk ((by rw [hg]; exact (below_size (hb2_ HB.out GE201.out GE202.out)) : w.heap.size ≤ gb203)); have n6_ := n5_; have n7_ := Aside0.mk ((by rw [hg]; exact Nat.ne_of_lt (blk_lt (g := gb201) (o := .cells #[.bool a0_0, .slice A0_1 l0_1.length c0_1] 99 (0, 0)) (ph_ BK201.out)) : gb201 ≠ gb203)); have n8_ := Aside0.mk ((by rw [hg]; exact Nat.ne_of_gt (blk_lt (g := gb201) (o := .cells #[.bool a0_0, .slice A0_1 l0_1.length c0_1] 99 (0, 0)) (ph_ BK201.out)) : gb203 ≠ gb201)); have n9_ := Aside0.mk ((by rw [hg]; exact Nat.ne_of_lt (blk_lt (g := gb202) (o := .cells #[.slice A1_0 l1_0.length c1_0] 97 (0, 0)) (ph_ BK202.out)) : gb202 ≠ gb203)); have n10_ := Aside0.mk ((by rw [hg]; exact Nat.ne_of_gt (blk_lt (g := gb202) (o := .cells #[.slice A1_0 l1_0.length c1_0] 97 (0, 0)) (ph_ BK202.out)) : gb203 ≠ gb202)); clear HO1_0; clear BK201; clear BK202; clear HB; have HO1_0 := n0_; have BK201 := n1_; have BK202 := n2_; have HB := n3_; have BK203 := n4_; have GW203 := n5_; have GE203 := n6_; have NB201_203 := n7_; have NB203_201 := n8_; have NB202_203 := n9_; have NB203_202 := n10_; clear n0_ n1_ n2_ n3_ n4_ n5_ n6_ n7_ n8_ n9_ n10_; clear hb hbox hg))
 have n0_ := Aside0.mk (Kd.V_drew HO1_0.out)
 have n1_ := Aside0.mk (blk_drew BK201.out)
 have n2_ := Aside0.mk (blk_drew BK202.out)
 have n3_ := Aside0.mk (blk_drew BK203.out)
 have n4_ := Aside0.mk (below_drew1 HB.out)
 clear HO1_0
 clear BK201
 clear BK202
 clear BK203
 clear HB
 have HO1_0 := n0_
 have BK201 := n1_
 have BK202 := n2_
 have BK203 := n3_
 have HB := n4_
 clear n0_ n1_ n2_ n3_ n4_
 refine start_ (n := 10) (S := fun w' => w'.cell? ⟨gb201, 0, none⟩ = some (.bool a0_0) ∧ w'.cell? ⟨gb201, 1, none⟩ = some (.slice A0_1 l0_1.length c0_1) ∧ w'.cell? ⟨gb202, 0, none⟩ = some (.slice A1_0 l1_0.length c1_0)) (ds := []) #[false, false, false, false, false, false, false, false, false, false] (by kernel_rfl) rfl rfl ⟨(blk_cell BK201.out 0).trans rfl, (blk_cell BK201.out 1).trans rfl, (blk_cell BK202.out 0).trans rfl⟩ (fun hHeld => ?_); refine with_tabW rat_scaled.tab1 rat_scaled.bits1 (fun HT_ HW_ => ?_)
 generalize w7.drew = w8 at HO1_0 BK201 BK202 BK203 HB hHeld ⊢
 refine take_ (i := 0) (N := some 8) (v := ?_) (a' := ?_) #[true, false, false, false, false, false, false, false, false, false] rfl rfl (take_ofW HT_.out HW_.out (by kernel_rfl)) (fun _ _ _ h => h) (Or.inl ⟨by rfl, ?_⟩) hHeld ?_ ?_
 rotate_left
 ·rintro w' ⟨s0, s1, s2⟩
  go_simp
  with_reducible rfl
 rotate_left
 ·simp only [Act.put, List.setIfInBounds_toArray, List.set_cons_zero, List.set_cons_succ, i64_w, i32_w]
  rfl
 refine take_ (i := 1) (N := some 9) (v := ?_) (a' := ?_) #[true, true, false, false, false, false, false, false, false, false] rfl rfl (take_ofW HT_.out HW_.out (by kernel_rfl)) (fun _ _ _ h => h) (Or.inl ⟨by rfl, ?_⟩) hHeld ?_ ?_
 rotate_left
 ·rintro w' ⟨s0, s1, s2⟩
  go_simp
  with_reducible rfl
 rotate_left
 ·simp only [Act.put, List.setIfInBounds_toArray, List.set_cons_zero, List.set_cons_succ, i64_w, i32_w]
  rfl
 refine join_ (σ := Value × Value × Nat) 2 m14_3 (fun s_ => [(10, .agg #[.bool t204, s_.1]), (11, .tuple #[.agg #[.bool t208, s_.2.1], .int .i64 t212]), (5, .pointer (some ⟨s_.2.2, 0, none⟩)), (7, .tuple #[.agg #[.bool t208, s_.2.1], .int .i64 t212]), (12, .agg #[.bool t208, s_.2.1]), (13, .int .i64 t212)]) (fun s_ w' => (w'.cell? ⟨gb201, 0, none⟩ = some (.bool a0_0) ∧ w'.cell? ⟨gb201, 1, none⟩ = some (.slice A0_1 l0_1.length c0_1) ∧ w'.cell? ⟨gb202, 0, none⟩ = some (.slice A1_0 l1_0.length c1_0)) ∧ (Kd.V (Kd.int .u64) 89 w' w.heap.size (fun k_ => (P1_0_ k_ ∨ w.heap.size ≤ k_) ∧ k_ ≠ gb201 ∧ k_ ≠ gb202 ∧ k_ ≠ gb203 ∧ k_ ≠ s_.2.2) (.slice A1_0 l1_0.length c1_0) l1_0) ∧ (Kd.V (Kd.int .u64) 89 w' w.heap.size (fun k_ => (P1_0_ k_ ∨ w.heap.size ≤ k_) ∧ k_ ≠ gb201 ∧ k_ ≠ gb202 ∧ k_ ≠ gb203 ∧ k_ ≠ s_.2.2) s_.1 t205) ∧ (Kd.V (Kd.int .u64) 89 w' w.heap.size (fun k_ => (P1_0_ k_ ∨ w.heap.size ≤ k_) ∧ k_ ≠ gb201 ∧ k_ ≠ gb202 ∧ k_ ≠ gb203 ∧ k_ ≠ s_.2.2) s_.2.1 t209) ∧ (w'.heap[gb201]? = some (.cells #[.bool a0_0, .slice A0_1 l0_1.length c0_1] 99 (0, 0))) ∧ (w'.heap[gb202]? = some (.cells #[.slice A1_0 l1_0.length c1_0] 97 (0, 0))) ∧ (w'.heap[gb203]? = some (.cells #[.bool false, .slice none 0 0] 99 (0, 0))) ∧ (w'.heap[s_.2.2]? = some (.cells #[.bool false, .slice none 0 0] 99 (0, 0))) ∧ (w.heap.size ≤ s_.2.2) ∧ (w.heap.size ≤ s_.2.2) ∧ (gb201 ≠ s_.2.2) ∧ (s_.2.2 ≠ gb201) ∧ (gb202 ≠ s_.2.2) ∧ (s_.2.2 ≠ gb202) ∧ (gb203 ≠ s_.2.2) ∧ (s_.2.2 ≠ gb203) ∧ (Below w.heap.size w w')) ?_ ?_
 rotate_left
 ·intro hCont
  refine two_ (i := 2) (j := 7) (Ni := some 10) (Nj := some 5) #[true, true, true, false, false, false, false, false, false, false] #[true, true, false, false, false, false, false, true, false, false] rfl rfl rfl rfl (two_of HT_.out (by kernel_rfl)) (by decide) (by decide) (fun K hK => ?_) (fun K hK => ?_)
  ·skip
   refine goes_ Tryz.func95 (by kernel_rfl) rfl #[.bool false, .agg #[.slice A1_0 l1_0.length c1_0]] (by rfl) rfl rfl (by (try simp only [List.map_toArray, List.map_cons, List.map_nil]); first | done | rfl | (simp only [List.length_drop, List.length_take]; rfl)) ?_
   with_reducible refine (whole_New.calls false (fun k_ => ((((P1_0_ k_ ∨ w.heap.size ≤ k_) ∧ k_ ≠ gb201) ∧ k_ ≠ gb202) ∧ k_ ≠ gb203)) _ _ l1_0 t204 t205 _ ?side1 A3.out).mono ?_
   (case side1 => exact HO1_0.out)
   rintro e w9 ⟨v206, rfl, ho0, hb⟩
   refine ⟨_, rfl, ?_⟩
   have n0_ := Aside0.mk (Kd.V_below (by (with_reducible repeat (first | apply Kd.V_alloc | apply Kd.V_drewN | apply Kd.V_drew)); exact HO1_0.out) hb)
   have n1_ := Aside0.mk (Kd.V_lower (Kd.V_mono (ok' := fun k_ => (P1_0_ k_ ∨ w.heap.size ≤ k_) ∧ k_ ≠ gb201 ∧ k_ ≠ gb202 ∧ k_ ≠ gb203) ho0 (fun k_ hk_ => ⟨Or.elim hk_ (fun hs_ => hs_.1.1.1) (fun hn_ => (.inr (Nat.le_trans (below_size (hb3_ HB.out GE201.out GE202.out GE203.out)) hn_))), Or.elim hk_ (fun hs_ => hs_.1.1.2) (fun hn_ => (Kd.freshB (g := gb201) (o := .cells #[.bool a0_0, .slice A0_1 l0_1.length c0_1] 99 (0, 0)) (ph_ BK201.out) k_ hn_)), Or.elim hk_ (fun hs_ => hs_.1.2) (fun hn_ => (Kd.freshB (g := gb202) (o := .cells #[.slice A1_0 l1_0.length c1_0] 97 (0, 0)) (ph_ BK202.out) k_ hn_)), Or.elim hk_ (fun hs_ => hs_.2) (fun hn_ => (Kd.freshB (g := gb203) (o := .cells #[.bool false, .slice none 0 0] 99 (0, 0)) (ph_ BK203.out) k_ hn_))⟩)) (below_size (hb3_ HB.out GE201.out GE202.out GE203.out)))
   have n2_ := Aside0.mk (blk_below (g := gb201) (o := .cells #[.bool a0_0, .slice A0_1 l0_1.length c0_1] 99 (0, 0)) (ph_ BK201.out) hb)
   have n3_ := Aside0.mk (blk_below (g := gb202) (o := .cells #[.slice A1_0 l1_0.length c1_0] 97 (0, 0)) (ph_ BK202.out) hb)
   have n4_ := Aside0.mk (blk_below (g := gb203) (o := .cells #[.bool false, .slice none 0 0] 99 (0, 0)) (ph_ BK203.out) hb)
   have n5_ := Aside0.mk (below_step (hb3_ HB.out GE201.out GE202.out GE203.out) hb)
   clear HO1_0
   clear BK201
   clear BK202
   clear BK203
   clear HB
   have HO1_0 := n0_
   have HO207 := n1_
   have BK201 := n2_
   have BK202 := n3_
   have BK203 := n4_
   have HB := n5_
   clear n0_ n1_ n2_ n3_ n4_ n5_
   (try clear hb)
   (try clear hb2)
   (try clear hk)
   (try clear hi)
   (try clear ho0)
   obtain ⟨Ao10, co10, eo10⟩ := Kd.V_slice HO207.out
   (first | subst eo10 | (injection eo10 with f1_ f2_ f3_; have f4_ := f1_.symm; have f5_ := f3_.symm; clear f1_ f2_ f3_; subst f4_; subst f5_))
   refine hK.out _ _ ⟨(blk_cell BK201.out 0).trans rfl, (blk_cell BK201.out 1).trans rfl, (blk_cell BK202.out 0).trans rfl⟩ (fun hHeld => ?_)
   clear hK K
   refine norm_ (a' := ?_) ?_ ?_
   rotate_left
   ·show Act.put _ (some 10) _ = _
    simp only [Act.put, List.setIfInBounds_toArray, List.set_cons_zero, List.set_cons_succ, i64_w, i32_w]
    rfl
   refine two_ (i := 3) (j := 7) (Ni := some 11) (Nj := some 5) #[true, true, true, true, false, false, false, false, false, false] m14_7 rfl rfl rfl rfl (two_of HT_.out (by kernel_rfl)) (by decide) (by decide) (fun K hK => ?_) (fun K hK => ?_)
   ·skip
    refine goes_ Tryz.func99 (by kernel_rfl) rfl #[.agg #[.bool a0_0, .slice A0_1 l0_1.length c0_1], .agg #[.bool t204, .slice Ao10 t205.length co10]] (by rfl) rfl rfl (by (try simp only [List.map_toArray, List.map_cons, List.map_nil]); first | done | rfl | (simp only [List.length_drop, List.length_take]; rfl)) ?_
    with_reducible refine (whole_Mul.calls k a0_0 _ _ l0_1 t204 _ _ t205 t208 t209 t212 _ ?side1 ?side2 ?side3 ?side4 A4.out).mono ?_
    (case side1 => repeat (first | exact (Kd.C_below HR0_1.out HB.out) | (with_reducible refine Kd.C_alloc ?_ _) | (with_reducible refine Kd.C_drewN ?_ _) | (with_reducible refine Kd.C_drew ?_)))
    (case side2 => exact HC0_1.out)
    (case side3 => repeat (first | exact (Kd.V_reads' HO207.out).2.2 | (with_reducible refine Kd.C_alloc ?_ _) | (with_reducible refine Kd.C_drewN ?_ _) | (with_reducible refine Kd.C_drew ?_)))
    (case side4 => exact (Kd.V_reads' HO207.out).2.1)
    rintro e w11 ⟨v210, rfl, ho0, hb⟩
    refine ⟨_, rfl, ?_⟩
    have n0_ := Aside0.mk (Kd.V_below (by (with_reducible repeat (first | apply Kd.V_alloc | apply Kd.V_drewN | apply Kd.V_drew)); exact HO1_0.out) hb)
    have n1_ := Aside0.mk (Kd.V_below (by (with_reducible repeat (first | apply Kd.V_alloc | apply Kd.V_drewN | apply Kd.V_drew)); exact HO207.out) hb)
    have n2_ := Aside0.mk (Kd.V_lower (Kd.V_mono (ok' := fun k_ => (P1_0_ k_ ∨ w.heap.size ≤ k_) ∧ k_ ≠ gb201 ∧ k_ ≠ gb202 ∧ k_ ≠ gb203) ho0 (fun k_ hk_ => ⟨(.inr (Nat.le_trans (below_size (hb3_ HB.out GE201.out GE202.out GE203.out)) hk_)), (Kd.freshB (g := gb201) (o := .cells #[.bool a0_0, .slice A0_1 l0_1.length c0_1] 99 (0, 0)) (ph_ BK201.out) k_ hk_), (Kd.freshB (g := gb202) (o := .cells #[.slice A1_0 l1_0.length c1_0] 97 (0, 0)) (ph_ BK202.out) k_ hk_), (Kd.freshB (g := gb203) (o := .cells #[.bool false, .slice none 0 0] 99 (0, 0)) (ph_ BK203.out) k_ hk_)⟩)) (below_size (hb3_ HB.out GE201.out GE202.out GE203.out)))
    have n3_ := Aside0.mk (blk_below (g := gb201) (o := .cells #[.bool a0_0, .slice A0_1 l0_1.length c0_1] 99 (0, 0)) (ph_ BK201.out) hb)
    have n4_ := Aside0.mk (blk_below (g := gb202) (o := .cells #[.slice A1_0 l1_0.length c1_0] 97 (0, 0)) (ph_ BK202.out) hb)
    have n5_ := Aside0.mk (blk_below (g := gb203) (o := .cells #[.bool false, .slice none 0 0] 99 (0, 0)) (ph_ BK203.out) hb)
    have n6_ := Aside0.mk (below_step (hb3_ HB.out GE201.out GE202.out GE203.out) hb)
    clear HO1_0
    clear HO207
    clear BK201
    clear BK202
    clear BK203
    clear HB
    have HO1_0 := n0_
    have HO207 := n1_
    have HO211 := n2_
    have BK201 := n3_
    have BK202 := n4_
    have BK203 := n5_
    have HB := n6_
    clear n0_ n1_ n2_ n3_ n4_ n5_ n6_
    (try clear hb)
    (try clear hb2)
    (try clear hk)
    (try clear hi)
    (try clear ho0)
    refine hK.out _ _ ⟨(blk_cell BK201.out 0).trans rfl, (blk_cell BK201.out 1).trans rfl, (blk_cell BK202.out 0).trans rfl⟩ (fun hHeld => ?_)
    clear hK K
    refine norm_ (a' := ?_) ?_ ?_
    rotate_left
    ·show Act.put _ (some 11) _ = _
     simp only [Act.put, List.setIfInBounds_toArray, List.set_cons_zero, List.set_cons_succ, i64_w, i32_w]
     rfl
    refine pure_ (i := 4) (N := some 7) (v := ?_) (a' := ?_) #[true, true, true, true, true, false, false, false, false, false] rfl rfl (any_of HT_.out (by kernel_rfl)) (fun _ _ _ h => h) (Or.inl ⟨by rfl, ?_⟩) ?_ ?_
    rotate_left
    ·intro w'
     go_simp
     with_reducible rfl
    rotate_left
    ·simp only [Act.put, List.setIfInBounds_toArray, List.set_cons_zero, List.set_cons_succ, i64_w, i32_w]
     rfl
    refine pure_ (i := 5) (N := some 12) (v := ?_) (a' := ?_) #[true, true, true, true, true, true, false, false, false, false] rfl rfl (any_of HT_.out (by kernel_rfl)) (fun _ _ _ h => h) (Or.inl ⟨by rfl, ?_⟩) ?_ ?_
    rotate_left
    ·intro w'
     go_simp
     with_reducible rfl
    rotate_left
    ·simp only [Act.put, List.setIfInBounds_toArray, List.set_cons_zero, List.set_cons_succ, i64_w, i32_w]
     rfl
    refine pure_ (i := 6) (N := some 13) (v := ?_) (a' := ?_) #[true, true, true, true, true, true, true, false, false, false] rfl rfl (any_of HT_.out (by kernel_rfl)) (fun _ _ _ h => h) (Or.inl ⟨by rfl, ?_⟩) ?_ ?_
    rotate_left
    ·intro w'
     go_simp
     with_reducible rfl
    rotate_left
    ·simp only [Act.put, List.setIfInBounds_toArray, List.set_cons_zero, List.set_cons_succ, i64_w, i32_w]
     rfl
    refine one_ (i := 7) (N := some 5) m14_3 rfl rfl (one_of HT_.out (by kernel_rfl)) (by decide) (fun K hK => ?_)
    refine box_step ?hg (N := 5) ?hd (cs := #[.bool false, .slice none 0 0]) (t := 99) ?hr ?_; (case hd => rfl); (case hg => rfl); (case hr => first | (go_simp; done) | (go_simp; rfl))
    intro gb213 hg w12 hbox hb
    have n0_ := Aside0.mk (Kd.V_below (Kd.V_elderB (by (with_reducible repeat (first | apply Kd.V_alloc | apply Kd.V_drewN | apply Kd.V_drew)); exact HO1_0.out) gb213 (Nat.le_of_eq hg.symm)) hb)
    have n1_ := Aside0.mk (Kd.V_below (Kd.V_elderB (by (with_reducible repeat (first | apply Kd.V_alloc | apply Kd.V_drewN | apply Kd.V_drew)); exact HO207.out) gb213 (Nat.le_of_eq hg.symm)) hb)
    have n2_ := Aside0.mk (Kd.V_below (Kd.V_elderB (by (with_reducible repeat (first | apply Kd.V_alloc | apply Kd.V_drewN | apply Kd.V_drew)); exact HO211.out) gb213 (Nat.le_of_eq hg.symm)) hb)
    have n3_ := Aside0.mk (blk_below (g := gb201) (o := .cells #[.bool a0_0, .slice A0_1 l0_1.length c0_1] 99 (0, 0)) (ph_ BK201.out) hb)
    have n4_ := Aside0.mk (blk_below (g := gb202) (o := .cells #[.slice A1_0 l1_0.length c1_0] 97 (0, 0)) (ph_ BK202.out) hb)
    have n5_ := Aside0.mk (blk_below (g := gb203) (o := .cells #[.bool false, .slice none 0 0] 99 (0, 0)) (ph_ BK203.out) hb)
    have n6_ := Aside0.mk (below_step (hb3_ HB.out GE201.out GE202.out GE203.out) hb)
    have n7_ := Aside0.mk (hbox)
    have n8_ := Aside0.mk ((by rw [hg]; exact (below_size (hb3_ HB.out GE201.out GE202.out GE203.out)) : w.heap.size ≤ gb213))
    have n9_ := Aside0.mk ((by rw [hg]; exact (below_size (hb3_ HB.out GE201.out GE202.out GE203.out)) : w.heap.size ≤ gb213))
    have n10_ := Aside0.mk ((by rw [hg]; exact Nat.ne_of_lt (blk_lt (g := gb201) (o := .cells #[.bool a0_0, .slice A0_1 l0_1.length c0_1] 99 (0, 0)) (ph_ BK201.out)) : gb201 ≠ gb213))
    have n11_ := Aside0.mk ((by rw [hg]; exact Nat.ne_of_gt (blk_lt (g := gb201) (o := .cells #[.bool a0_0, .slice A0_1 l0_1.length c0_1] 99 (0, 0)) (ph_ BK201.out)) : gb213 ≠ gb201))
    have n12_ := Aside0.mk ((by rw [hg]; exact Nat.ne_of_lt (blk_lt (g := gb202) (o := .cells #[.slice A1_0 l1_0.length c1_0] 97 (0, 0)) (ph_ BK202.out)) : gb202 ≠ gb213))
    have n13_ := Aside0.mk ((by rw [hg]; exact Nat.ne_of_gt (blk_lt (g := gb202) (o := .cells #[.slice A1_0 l1_0.length c1_0] 97 (0, 0)) (ph_ BK202.out)) : gb213 ≠ gb202))
    have n14_ := Aside0.mk ((by rw [hg]; exact Nat.ne_of_lt (blk_lt (g := gb203) (o := .cells #[.bool false, .slice none 0 0] 99 (0, 0)) (ph_ BK203.out)) : gb203 ≠ gb213))
    have n15_ := Aside0.mk ((by rw [hg]; exact Nat.ne_of_gt (blk_lt (g := gb203) (o := .cells #[.bool false, .slice none 0 0] 99 (0, 0)) (ph_ BK203.out)) : gb213 ≠ gb203))
    clear HO1_0
    clear HO207
    clear HO211
    clear BK201
    clear BK202
    clear BK203
    clear HB
    have HO1_0 := n0_
    have HO207 := n1_
    have HO211 := n2_
    have BK201 := n3_
    have BK202 := n4_
    have BK203 := n5_
    have HB := n6_
    have BK213 := n7_
    have GW213 := n8_
    have GE213 := n9_
    have NB201_213 := n10_
    have NB213_201 := n11_
    have NB202_213 := n12_
    have NB213_202 := n13_
    have NB203_213 := n14_
    have NB213_203 := n15_
    clear n0_ n1_ n2_ n3_ n4_ n5_ n6_ n7_ n8_ n9_ n10_ n11_ n12_ n13_ n14_ n15_
    clear hb hbox hg
    refine hK.out _ _ ⟨(blk_cell BK201.out 0).trans rfl, (blk_cell BK201.out 1).trans rfl, (blk_cell BK202.out 0).trans rfl⟩ (fun hHeld => ?_)
    clear hK K
    refine norm_ (a' := ?_) ?_ ?_
    rotate_left
    ·show Act.put _ (some 5) _ = _
     simp only [Act.put, List.setIfInBounds_toArray, List.set_cons_zero, List.set_cons_succ, i64_w, i32_w]
     rfl
    exact norm_ (by simp only [putAll, Act.put, List.setIfInBounds_toArray, List.set_cons_zero, List.set_cons_succ]) (hCont (.slice Ao10 t205.length co10, v210, gb213) _ ⟨hHeld, (by (with_reducible repeat (first | apply Kd.V_alloc | apply Kd.V_drewN | apply Kd.V_drew)); exact Kd.V_mono HO1_0.out (fun _ hk => ⟨hk.1.1.1.1, ⟨hk.1.1.1.2, ⟨hk.1.1.2, ⟨hk.1.2, hk.2⟩⟩⟩⟩)), (by (with_reducible repeat (first | apply Kd.V_alloc | apply Kd.V_drewN | apply Kd.V_drew)); exact Kd.V_mono HO207.out (fun _ hk => ⟨hk.1.1, ⟨hk.1.2.1, ⟨hk.1.2.2.1, ⟨hk.1.2.2.2, hk.2⟩⟩⟩⟩)), (by (with_reducible repeat (first | apply Kd.V_alloc | apply Kd.V_drewN | apply Kd.V_drew)); exact Kd.V_mono HO211.out (fun _ hk => ⟨hk.1.1, ⟨hk.1.2.1, ⟨hk.1.2.2.1, ⟨hk.1.2.2.2, hk.2⟩⟩⟩⟩)), (ph_ BK201.out), (ph_ BK202.out), (ph_ BK203.out), (ph_ BK213.out), GW213.out, GE213.out, NB201_213.out, NB213_201.out, NB202_213.out, NB213_202.out, NB203_213.out, NB213_203.out, (hb4_ HB.out GE201.out GE202.out GE203.out GE213.out)⟩)
   ·skip
    refine box_step ?hg (N := 5) ?hd (cs := #[.bool false, .slice none 0 0]) (t := 99) ?hr ?_; (case hd => rfl); (case hg => rfl); (case hr => first | (go_simp; done) | (go_simp; rfl))
    intro gb213 hg w10 hbox hb
    have n0_ := Aside0.mk (Kd.V_below (Kd.V_elderB (by (with_reducible repeat (first | apply Kd.V_alloc | apply Kd.V_drewN | apply Kd.V_drew)); exact HO1_0.out) gb213 (Nat.le_of_eq hg.symm)) hb)
    have n1_ := Aside0.mk (Kd.V_below (Kd.V_elderB (by (with_reducible repeat (first | apply Kd.V_alloc | apply Kd.V_drewN | apply Kd.V_drew)); exact HO207.out) gb213 (Nat.le_of_eq hg.symm)) hb)
    have n2_ := Aside0.mk (blk_below (g := gb201) (o := .cells #[.bool a0_0, .slice A0_1 l0_1.length c0_1] 99 (0, 0)) (ph_ BK201.out) hb)
    have n3_ := Aside0.mk (blk_below (g := gb202) (o := .cells #[.slice A1_0 l1_0.length c1_0] 97 (0, 0)) (ph_ BK202.out) hb)
    have n4_ := Aside0.mk (blk_below (g := gb203) (o := .cells #[.bool false, .slice none 0 0] 99 (0, 0)) (ph_ BK203.out) hb)
    have n5_ := Aside0.mk (below_step (hb3_ HB.out GE201.out GE202.out GE203.out) hb)
    have n6_ := Aside0.mk (hbox)
    have n7_ := Aside0.mk ((by rw [hg]; exact (below_size (hb3_ HB.out GE201.out GE202.out GE203.out)) : w.heap.size ≤ gb213))
    have n8_ := Aside0.mk ((by rw [hg]; exact (below_size (hb3_ HB.out GE201.out GE202.out GE203.out)) : w.heap.size ≤ gb213))
    have n9_ := Aside0.mk ((by rw [hg]; exact Nat.ne_of_lt (blk_lt (g := gb201) (o := .cells #[.bool a0_0, .slice A0_1 l0_1.length c0_1] 99 (0, 0)) (ph_ BK201.out)) : gb201 ≠ gb213))
    have n10_ := Aside0.mk ((by rw [hg]; exact Nat.ne_of_gt (blk_lt (g := gb201) (o := .cells #[.bool a0_0, .slice A0_1 l0_1.length c0_1] 99 (0, 0)) (ph_ BK201.out)) : gb213 ≠ gb201))
    have n11_ := Aside0.mk ((by rw [hg]; exact Nat.ne_of_lt (blk_lt (g := gb202) (o := .cells #[.slice A1_0 l1_0.length c1_0] 97 (0, 0)) (ph_ BK202.out)) : gb202 ≠ gb213))
    have n12_ := Aside0.mk ((by rw [hg]; exact Nat.ne_of_gt (blk_lt (g := gb202) (o := .cells #[.slice A1_0 l1_0.length c1_0] 97 (0, 0)) (ph_ BK202.out)) : gb213 ≠ gb202))
    have n13_ := Aside0.mk ((by rw [hg]; exact Nat.ne_of_lt (blk_lt (g := gb203) (o := .cells #[.bool false, .slice none 0 0] 99 (0, 0)) (ph_ BK203.out)) : gb203 ≠ gb213))
    have n14_ := Aside0.mk ((by rw [hg]; exact Nat.ne_of_gt (blk_lt (g := gb203) (o := .cells #[.bool false, .slice none 0 0] 99 (0, 0)) (ph_ BK203.out)) : gb213 ≠ gb203))
    clear HO1_0
    clear HO207
    clear BK201
    clear BK202
    clear BK203
    clear HB
    have HO1_0 := n0_
    have HO207 := n1_
    have BK201 := n2_
    have BK202 := n3_
    have BK203 := n4_
    have HB := n5_
    have BK213 := n6_
    have GW213 := n7_
    have GE213 := n8_
    have NB201_213 := n9_
    have NB213_201 := n10_
    have NB202_213 := n11_
    have NB213_202 := n12_
    have NB203_213 := n13_
    have NB213_203 := n14_
    clear n0_ n1_ n2_ n3_ n4_ n5_ n6_ n7_ n8_ n9_ n10_ n11_ n12_ n13_ n14_
    clear hb hbox hg
    obtain ⟨Ao11, co11, eo11⟩ := Kd.V_slice HO207.out
    (first | subst eo11 | (injection eo11 with f1_ f2_ f3_; have f4_ := f1_.symm; have f5_ := f3_.symm; clear f1_ f2_ f3_; subst f4_; subst f5_))
    refine hK.out _ _ ⟨(blk_cell BK201.out 0).trans rfl, (blk_cell BK201.out 1).trans rfl, (blk_cell BK202.out 0).trans rfl⟩ (fun hHeld => ?_)
    clear hK K
    refine norm_ (a' := ?_) ?_ ?_
    rotate_left
    ·show Act.put _ (some 5) _ = _
     simp only [Act.put, List.setIfInBounds_toArray, List.set_cons_zero, List.set_cons_succ, i64_w, i32_w]
     rfl
    refine one_ (i := 3) (N := some 11) m14_11 rfl rfl (one_of HT_.out (by kernel_rfl)) (by decide) (fun K hK => ?_)
    refine goes_ Tryz.func99 (by kernel_rfl) rfl #[.agg #[.bool a0_0, .slice A0_1 l0_1.length c0_1], .agg #[.bool t204, .slice Ao11 t205.length co11]] (by rfl) rfl rfl (by (try simp only [List.map_toArray, List.map_cons, List.map_nil]); first | done | rfl | (simp only [List.length_drop, List.length_take]; rfl)) ?_
    with_reducible refine (whole_Mul.calls k a0_0 _ _ l0_1 t204 _ _ t205 t208 t209 t212 _ ?side1 ?side2 ?side3 ?side4 A4.out).mono ?_
    (case side1 => repeat (first | exact (Kd.C_below HR0_1.out HB.out) | (with_reducible refine Kd.C_alloc ?_ _) | (with_reducible refine Kd.C_drewN ?_ _) | (with_reducible refine Kd.C_drew ?_)))
    (case side2 => exact HC0_1.out)
    (case side3 => repeat (first | exact (Kd.V_reads' HO207.out).2.2 | (with_reducible refine Kd.C_alloc ?_ _) | (with_reducible refine Kd.C_drewN ?_ _) | (with_reducible refine Kd.C_drew ?_)))
    (case side4 => exact (Kd.V_reads' HO207.out).2.1)
    rintro e w12 ⟨v210, rfl, ho0, hb⟩
    refine ⟨_, rfl, ?_⟩
    have n0_ := Aside0.mk (Kd.V_below (by (with_reducible repeat (first | apply Kd.V_alloc | apply Kd.V_drewN | apply Kd.V_drew)); exact HO1_0.out) hb)
    have n1_ := Aside0.mk (Kd.V_below (by (with_reducible repeat (first | apply Kd.V_alloc | apply Kd.V_drewN | apply Kd.V_drew)); exact HO207.out) hb)
    have n2_ := Aside0.mk (Kd.V_lower (Kd.V_mono (ok' := fun k_ => (P1_0_ k_ ∨ w.heap.size ≤ k_) ∧ k_ ≠ gb201 ∧ k_ ≠ gb202 ∧ k_ ≠ gb203 ∧ k_ ≠ gb213) ho0 (fun k_ hk_ => ⟨(.inr (Nat.le_trans (below_size (hb4_ HB.out GE201.out GE202.out GE203.out GE213.out)) hk_)), (Kd.freshB (g := gb201) (o := .cells #[.bool a0_0, .slice A0_1 l0_1.length c0_1] 99 (0, 0)) (ph_ BK201.out) k_ hk_), (Kd.freshB (g := gb202) (o := .cells #[.slice A1_0 l1_0.length c1_0] 97 (0, 0)) (ph_ BK202.out) k_ hk_), (Kd.freshB (g := gb203) (o := .cells #[.bool false, .slice none 0 0] 99 (0, 0)) (ph_ BK203.out) k_ hk_), (Kd.freshB (g := gb213) (o := .cells #[.bool false, .slice none 0 0] 99 (0, 0)) (ph_ BK213.out) k_ hk_)⟩)) (below_size (hb4_ HB.out GE201.out GE202.out GE203.out GE213.out)))
    have n3_ := Aside0.mk (blk_below (g := gb201) (o := .cells #[.bool a0_0, .slice A0_1 l0_1.length c0_1] 99 (0, 0)) (ph_ BK201.out) hb)
    have n4_ := Aside0.mk (blk_below (g := gb202) (o := .cells #[.slice A1_0 l1_0.length c1_0] 97 (0, 0)) (ph_ BK202.out) hb)
    have n5_ := Aside0.mk (blk_below (g := gb203) (o := .cells #[.bool false, .slice none 0 0] 99 (0, 0)) (ph_ BK203.out) hb)
    have n6_ := Aside0.mk (blk_below (g := gb213) (o := .cells #[.bool false, .slice none 0 0] 99 (0, 0)) (ph_ BK213.out) hb)
    have n7_ := Aside0.mk (below_step (hb4_ HB.out GE201.out GE202.out GE203.out GE213.out) hb)
    clear HO1_0
    clear HO207
    clear BK201
    clear BK202
    clear BK203
    clear BK213
    clear HB
    have HO1_0 := n0_
    have HO207 := n1_
    have HO211 := n2_
    have BK201 := n3_
    have BK202 := n4_
    have BK203 := n5_
    have BK213 := n6_
    have HB := n7_
    clear n0_ n1_ n2_ n3_ n4_ n5_ n6_ n7_
    (try clear hb)
    (try clear hb2)
    (try clear hk)
    (try clear hi)
    (try clear ho0)
    refine hK.out _ _ ⟨(blk_cell BK201.out 0).trans rfl, (blk_cell BK201.out 1).trans rfl, (blk_cell BK202.out 0).trans rfl⟩ (fun hHeld => ?_)
    clear hK K
    refine norm_ (a' := ?_) ?_ ?_
    rotate_left
    ·show Act.put _ (some 11) _ = _
     simp only [Act.put, List.setIfInBounds_toArray, List.set_cons_zero, List.set_cons_succ, i64_w, i32_w]
     rfl
    refine pure_ (i := 4) (N := some 7) (v := ?_) (a' := ?_) m14_12 rfl rfl (any_of HT_.out (by kernel_rfl)) (fun _ _ _ h => h) (Or.inl ⟨by rfl, ?_⟩) ?_ ?_
    rotate_left
    ·intro w'
     go_simp
     with_reducible rfl
    rotate_left
    ·simp only [Act.put, List.setIfInBounds_toArray, List.set_cons_zero, List.set_cons_succ, i64_w, i32_w]
     rfl
    refine pure_ (i := 5) (N := some 12) (v := ?_) (a' := ?_) m14_13 rfl rfl (any_of HT_.out (by kernel_rfl)) (fun _ _ _ h => h) (Or.inl ⟨by rfl, ?_⟩) ?_ ?_
    rotate_left
    ·intro w'
     go_simp
     with_reducible rfl
    rotate_left
    ·simp only [Act.put, List.setIfInBounds_toArray, List.set_cons_zero, List.set_cons_succ, i64_w, i32_w]
     rfl
    refine pure_ (i := 6) (N := some 13) (v := ?_) (a' := ?_) m14_3 rfl rfl (any_of HT_.out (by kernel_rfl)) (fun _ _ _ h => h) (Or.inl ⟨by rfl, ?_⟩) ?_ ?_
    rotate_left
    ·intro w'
     go_simp
     with_reducible rfl
    rotate_left
    ·simp only [Act.put, List.setIfInBounds_toArray, List.set_cons_zero, List.set_cons_succ, i64_w, i32_w]
     rfl
    exact norm_ (by simp only [putAll, Act.put, List.setIfInBounds_toArray, List.set_cons_zero, List.set_cons_succ]) (hCont (.slice Ao11 t205.length co11, v210, gb213) _ ⟨hHeld, (by (with_reducible repeat (first | apply Kd.V_alloc | apply Kd.V_drewN | apply Kd.V_drew)); exact Kd.V_mono HO1_0.out (fun _ hk => ⟨hk.1.1.1.1, ⟨hk.1.1.1.2, ⟨hk.1.1.2, ⟨hk.1.2, hk.2⟩⟩⟩⟩)), (by (with_reducible repeat (first | apply Kd.V_alloc | apply Kd.V_drewN | apply Kd.V_drew)); exact Kd.V_mono HO207.out (fun _ hk => ⟨hk.1.1, ⟨hk.1.2.1, ⟨hk.1.2.2.1, ⟨hk.1.2.2.2, hk.2⟩⟩⟩⟩)), (by (with_reducible repeat (first | apply Kd.V_alloc | apply Kd.V_drewN | apply Kd.V_drew)); exact HO211.out), (ph_ BK201.out), (ph_ BK202.out), (ph_ BK203.out), (ph_ BK213.out), GW213.out, GE213.out, NB201_213.out, NB213_201.out, NB202_213.out, NB213_202.out, NB203_213.out, NB213_203.out, (hb4_ HB.out GE201.out GE202.out GE203.out GE213.out)⟩)
  ·skip
   refine box_step ?hg (N := 5) ?hd (cs := #[.bool false, .slice none 0 0]) (t := 99) ?hr ?_; (case hd => rfl); (case hg => rfl); (case hr => first | (go_simp; done) | (go_simp; rfl))
   intro gb213 hg w9 hbox hb
   have n0_ := Aside0.mk (Kd.V_below (Kd.V_elderB (by (with_reducible repeat (first | apply Kd.V_alloc | apply Kd.V_drewN | apply Kd.V_drew)); exact HO1_0.out) gb213 (Nat.le_of_eq hg.symm)) hb)
   have n1_ := Aside0.mk (blk_below (g := gb201) (o := .cells #[.bool a0_0, .slice A0_1 l0_1.length c0_1] 99 (0, 0)) (ph_ BK201.out) hb)
   have n2_ := Aside0.mk (blk_below (g := gb202) (o := .cells #[.slice A1_0 l1_0.length c1_0] 97 (0, 0)) (ph_ BK202.out) hb)
   have n3_ := Aside0.mk (blk_below (g := gb203) (o := .cells #[.bool false, .slice none 0 0] 99 (0, 0)) (ph_ BK203.out) hb)
   have n4_ := Aside0.mk (below_step (hb3_ HB.out GE201.out GE202.out GE203.out) hb)
   have n5_ := Aside0.mk (hbox)
   have n6_ := Aside0.mk ((by rw [hg]; exact (below_size (hb3_ HB.out GE201.out GE202.out GE203.out)) : w.heap.size ≤ gb213))
   have n7_ := Aside0.mk ((by rw [hg]; exact (below_size (hb3_ HB.out GE201.out GE202.out GE203.out)) : w.heap.size ≤ gb213))
   have n8_ := Aside0.mk ((by rw [hg]; exact Nat.ne_of_lt (blk_lt (g := gb201) (o := .cells #[.bool a0_0, .slice A0_1 l0_1.length c0_1] 99 (0, 0)) (ph_ BK201.out)) : gb201 ≠ gb213))
   have n9_ := Aside0.mk ((by rw [hg]; exact Nat.ne_of_gt (blk_lt (g := gb201) (o := .cells #[.bool a0_0, .slice A0_1 l0_1.length c0_1] 99 (0, 0)) (ph_ BK201.out)) : gb213 ≠ gb201))
   have n10_ := Aside0.mk ((by rw [hg]; exact Nat.ne_of_lt (blk_lt (g := gb202) (o := .cells #[.slice A1_0 l1_0.length c1_0] 97 (0, 0)) (ph_ BK202.out)) : gb202 ≠ gb213))
   have n11_ := Aside0.mk ((by rw [hg]; exact Nat.ne_of_gt (blk_lt (g := gb202) (o := .cells #[.slice A1_0 l1_0.length c1_0] 97 (0, 0)) (ph_ BK202.out)) : gb213 ≠ gb202))
   have n12_ := Aside0.mk ((by rw [hg]; exact Nat.ne_of_lt (blk_lt (g := gb203) (o := .cells #[.bool false, .slice none 0 0] 99 (0, 0)) (ph_ BK203.out)) : gb203 ≠ gb213))
   have n13_ := Aside0.mk ((by rw [hg]; exact Nat.ne_of_gt (blk_lt (g := gb203) (o := .cells #[.bool false, .slice none 0 0] 99 (0, 0)) (ph_ BK203.out)) : gb213 ≠ gb203))
   clear HO1_0
   clear BK201
   clear BK202
   clear BK203
   clear HB
   have HO1_0 := n0_
   have BK201 := n1_
   have BK202 := n2_
   have BK203 := n3_
   have HB := n4_
   have BK213 := n5_
   have GW213 := n6_
   have GE213 := n7_
   have NB201_213 := n8_
   have NB213_201 := n9_
   have NB202_213 := n10_
   have NB213_202 := n11_
   have NB203_213 := n12_
   have NB213_203 := n13_
   clear n0_ n1_ n2_ n3_ n4_ n5_ n6_ n7_ n8_ n9_ n10_ n11_ n12_ n13_
   clear hb hbox hg
   refine hK.out _ _ ⟨(blk_cell BK201.out 0).trans rfl, (blk_cell BK201.out 1).trans rfl, (blk_cell BK202.out 0).trans rfl⟩ (fun hHeld => ?_)
   clear hK K
   refine norm_ (a' := ?_) ?_ ?_
   rotate_left
   ·show Act.put _ (some 5) _ = _
    simp only [Act.put, List.setIfInBounds_toArray, List.set_cons_zero, List.set_cons_succ, i64_w, i32_w]
    rfl
   refine one_ (i := 2) (N := some 10) m14_7 rfl rfl (one_of HT_.out (by kernel_rfl)) (by decide) (fun K hK => ?_)
   refine goes_ Tryz.func95 (by kernel_rfl) rfl #[.bool false, .agg #[.slice A1_0 l1_0.length c1_0]] (by rfl) rfl rfl (by (try simp only [List.map_toArray, List.map_cons, List.map_nil]); first | done | rfl | (simp only [List.length_drop, List.length_take]; rfl)) ?_
   with_reducible refine (whole_New.calls false (fun k_ => (((((P1_0_ k_ ∨ w.heap.size ≤ k_) ∧ k_ ≠ gb201) ∧ k_ ≠ gb202) ∧ k_ ≠ gb203) ∧ k_ ≠ gb213)) _ _ l1_0 t204 t205 _ ?side1 A3.out).mono ?_
   (case side1 => exact HO1_0.out)
   rintro e w10 ⟨v206, rfl, ho0, hb⟩
   refine ⟨_, rfl, ?_⟩
   have n0_ := Aside0.mk (Kd.V_below (by (with_reducible repeat (first | apply Kd.V_alloc | apply Kd.V_drewN | apply Kd.V_drew)); exact HO1_0.out) hb)
   have n1_ := Aside0.mk (Kd.V_lower (Kd.V_mono (ok' := fun k_ => (P1_0_ k_ ∨ w.heap.size ≤ k_) ∧ k_ ≠ gb201 ∧ k_ ≠ gb202 ∧ k_ ≠ gb203 ∧ k_ ≠ gb213) ho0 (fun k_ hk_ => ⟨Or.elim hk_ (fun hs_ => hs_.1.1.1.1) (fun hn_ => (.inr (Nat.le_trans (below_size (hb4_ HB.out GE201.out GE202.out GE203.out GE213.out)) hn_))), Or.elim hk_ (fun hs_ => hs_.1.1.1.2) (fun hn_ => (Kd.freshB (g := gb201) (o := .cells #[.bool a0_0, .slice A0_1 l0_1.length c0_1] 99 (0, 0)) (ph_ BK201.out) k_ hn_)), Or.elim hk_ (fun hs_ => hs_.1.1.2) (fun hn_ => (Kd.freshB (g := gb202) (o := .cells #[.slice A1_0 l1_0.length c1_0] 97 (0, 0)) (ph_ BK202.out) k_ hn_)), Or.elim hk_ (fun hs_ => hs_.1.2) (fun hn_ => (Kd.freshB (g := gb203) (o := .cells #[.bool false, .slice none 0 0] 99 (0, 0)) (ph_ BK203.out) k_ hn_)), Or.elim hk_ (fun hs_ => hs_.2) (fun hn_ => (Kd.freshB (g := gb213) (o := .cells #[.bool false, .slice none 0 0] 99 (0, 0)) (ph_ BK213.out) k_ hn_))⟩)) (below_size (hb4_ HB.out GE201.out GE202.out GE203.out GE213.out)))
   have n2_ := Aside0.mk (blk_below (g := gb201) (o := .cells #[.bool a0_0, .slice A0_1 l0_1.length c0_1] 99 (0, 0)) (ph_ BK201.out) hb)
   have n3_ := Aside0.mk (blk_below (g := gb202) (o := .cells #[.slice A1_0 l1_0.length c1_0] 97 (0, 0)) (ph_ BK202.out) hb)
   have n4_ := Aside0.mk (blk_below (g := gb203) (o := .cells #[.bool false, .slice none 0 0] 99 (0, 0)) (ph_ BK203.out) hb)
   have n5_ := Aside0.mk (blk_below (g := gb213) (o := .cells #[.bool false, .slice none 0 0] 99 (0, 0)) (ph_ BK213.out) hb)
   have n6_ := Aside0.mk (below_step (hb4_ HB.out GE201.out GE202.out GE203.out GE213.out) hb)
   clear HO1_0
   clear BK201
   clear BK202
   clear BK203
   clear BK213
   clear HB
   have HO1_0 := n0_
   have HO207 := n1_
   have BK201 := n2_
   have BK202 := n3_
   have BK203 := n4_
   have BK213 := n5_
   have HB := n6_
   clear n0_ n1_ n2_ n3_ n4_ n5_ n6_
   (try clear hb)
   (try clear hb2)
   (try clear hk)
   (try clear hi)
   (try clear ho0)
   obtain ⟨Ao11, co11, eo11⟩ := Kd.V_slice HO207.out
   (first | subst eo11 | (injection eo11 with f1_ f2_ f3_; have f4_ := f1_.symm; have f5_ := f3_.symm; clear f1_ f2_ f3_; subst f4_; subst f5_))
   refine hK.out _ _ ⟨(blk_cell BK201.out 0).trans rfl, (blk_cell BK201.out 1).trans rfl, (blk_cell BK202.out 0).trans rfl⟩ (fun hHeld => ?_)
   clear hK K
   refine norm_ (a' := ?_) ?_ ?_
   rotate_left
   ·show Act.put _ (some 10) _ = _
    simp only [Act.put, List.setIfInBounds_toArray, List.set_cons_zero, List.set_cons_succ, i64_w, i32_w]
    rfl
   refine one_ (i := 3) (N := some 11) m14_11 rfl rfl (one_of HT_.out (by kernel_rfl)) (by decide) (fun K hK => ?_)
   refine goes_ Tryz.func99 (by kernel_rfl) rfl #[.agg #[.bool a0_0, .slice A0_1 l0_1.length c0_1], .agg #[.bool t204, .slice Ao11 t205.length co11]] (by rfl) rfl rfl (by (try simp only [List.map_toArray, List.map_cons, List.map_nil]); first | done | rfl | (simp only [List.length_drop, List.length_take]; rfl)) ?_
   with_reducible refine (whole_Mul.calls k a0_0 _ _ l0_1 t204 _ _ t205 t208 t209 t212 _ ?side1 ?side2 ?side3 ?side4 A4.out).mono ?_
   (case side1 => repeat (first | exact (Kd.C_below HR0_1.out HB.out) | (with_reducible refine Kd.C_alloc ?_ _) | (with_reducible refine Kd.C_drewN ?_ _) | (with_reducible refine Kd.C_drew ?_)))
   (case side2 => exact HC0_1.out)
   (case side3 => repeat (first | exact (Kd.V_reads' HO207.out).2.2 | (with_reducible refine Kd.C_alloc ?_ _) | (with_reducible refine Kd.C_drewN ?_ _) | (with_reducible refine Kd.C_drew ?_)))
   (case side4 => exact (Kd.V_reads' HO207.out).2.1)
   rintro e w12 ⟨v210, rfl, ho0, hb⟩
   refine ⟨_, rfl, ?_⟩
   have n0_ := Aside0.mk (Kd.V_below (by (with_reducible repeat (first | apply Kd.V_alloc | apply Kd.V_drewN | apply Kd.V_drew)); exact HO1_0.out) hb)
   have n1_ := Aside0.mk (Kd.V_below (by (with_reducible repeat (first | apply Kd.V_alloc | apply Kd.V_drewN | apply Kd.V_drew)); exact HO207.out) hb)
   have n2_ := Aside0.mk (Kd.V_lower (Kd.V_mono (ok' := fun k_ => (P1_0_ k_ ∨ w.heap.size ≤ k_) ∧ k_ ≠ gb201 ∧ k_ ≠ gb202 ∧ k_ ≠ gb203 ∧ k_ ≠ gb213) ho0 (fun k_ hk_ => ⟨(.inr (Nat.le_trans (below_size (hb4_ HB.out GE201.out GE202.out GE203.out GE213.out)) hk_)), (Kd.freshB (g := gb201) (o := .cells #[.bool a0_0, .slice A0_1 l0_1.length c0_1] 99 (0, 0)) (ph_ BK201.out) k_ hk_), (Kd.freshB (g := gb202) (o := .cells #[.slice A1_0 l1_0.length c1_0] 97 (0, 0)) (ph_ BK202.out) k_ hk_), (Kd.freshB (g := gb203) (o := .cells #[.bool false, .slice none 0 0] 99 (0, 0)) (ph_ BK203.out) k_ hk_), (Kd.freshB (g := gb213) (o := .cells #[.bool false, .slice none 0 0] 99 (0, 0)) (ph_ BK213.out) k_ hk_)⟩)) (below_size (hb4_ HB.out GE201.out GE202.out GE203.out GE213.out)))
   have n3_ := Aside0.mk (blk_below (g := gb201) (o := .cells #[.bool a0_0, .slice A0_1 l0_1.length c0_1] 99 (0, 0)) (ph_ BK201.out) hb)
   have n4_ := Aside0.mk (blk_below (g := gb202) (o := .cells #[.slice A1_0 l1_0.length c1_0] 97 (0, 0)) (ph_ BK202.out) hb)
   have n5_ := Aside0.mk (blk_below (g := gb203) (o := .cells #[.bool false, .slice none 0 0] 99 (0, 0)) (ph_ BK203.out) hb)
   have n6_ := Aside0.mk (blk_below (g := gb213) (o := .cells #[.bool false, .slice none 0 0] 99 (0, 0)) (ph_ BK213.out) hb)
   have n7_ := Aside0.mk (below_step (hb4_ HB.out GE201.out GE202.out GE203.out GE213.out) hb)
   clear HO1_0
   clear HO207
   clear BK201
   clear BK202
   clear BK203
   clear BK213
   clear HB
   have HO1_0 := n0_
   have HO207 := n1_
   have HO211 := n2_
   have BK201 := n3_
   have BK202 := n4_
   have BK203 := n5_
   have BK213 := n6_
   have HB := n7_
   clear n0_ n1_ n2_ n3_ n4_ n5_ n6_ n7_
   (try clear hb)
   (try clear hb2)
   (try clear hk)
   (try clear hi)
   (try clear ho0)
   refine hK.out _ _ ⟨(blk_cell BK201.out 0).trans rfl, (blk_cell BK201.out 1).trans rfl, (blk_cell BK202.out 0).trans rfl⟩ (fun hHeld => ?_)
   clear hK K
   refine norm_ (a' := ?_) ?_ ?_
   rotate_left
   ·show Act.put _ (some 11) _ = _
    simp only [Act.put, List.setIfInBounds_toArray, List.set_cons_zero, List.set_cons_succ, i64_w, i32_w]
    rfl
   refine pure_ (i := 4) (N := some 7) (v := ?_) (a' := ?_) m14_12 rfl rfl (any_of HT_.out (by kernel_rfl)) (fun _ _ _ h => h) (Or.inl ⟨by rfl, ?_⟩) ?_ ?_
   rotate_left
   ·intro w'
    go_simp
    with_reducible rfl
   rotate_left
   ·simp only [Act.put, List.setIfInBounds_toArray, List.set_cons_zero, List.set_cons_succ, i64_w, i32_w]
    rfl
   refine pure_ (i := 5) (N := some 12) (v := ?_) (a' := ?_) m14_13 rfl rfl (any_of HT_.out (by kernel_rfl)) (fun _ _ _ h => h) (Or.inl ⟨by rfl, ?_⟩) ?_ ?_
   rotate_left
   ·intro w'
    go_simp
    with_reducible rfl
   rotate_left
   ·simp only [Act.put, List.setIfInBounds_toArray, List.set_cons_zero, List.set_cons_succ, i64_w, i32_w]
    rfl
   refine pure_ (i := 6) (N := some 13) (v := ?_) (a' := ?_) m14_3 rfl rfl (any_of HT_.out (by kernel_rfl)) (fun _ _ _ h => h) (Or.inl ⟨by rfl, ?_⟩) ?_ ?_
   rotate_left
   ·intro w'
    go_simp
    with_reducible rfl
   rotate_left
   ·simp only [Act.put, List.setIfInBounds_toArray, List.set_cons_zero, List.set_cons_succ, i64_w, i32_w]
    rfl
   exact norm_ (by simp only [putAll, Act.put, List.setIfInBounds_toArray, List.set_cons_zero, List.set_cons_succ]) (hCont (.slice Ao11 t205.length co11, v210, gb213) _ ⟨hHeld, (by (with_reducible repeat (first | apply Kd.V_alloc | apply Kd.V_drewN | apply Kd.V_drew)); exact Kd.V_mono HO1_0.out (fun _ hk => ⟨hk.1.1.1.1, ⟨hk.1.1.1.2, ⟨hk.1.1.2, ⟨hk.1.2, hk.2⟩⟩⟩⟩)), (by (with_reducible repeat (first | apply Kd.V_alloc | apply Kd.V_drewN | apply Kd.V_drew)); exact HO207.out), (by (with_reducible repeat (first | apply Kd.V_alloc | apply Kd.V_drewN | apply Kd.V_drew)); exact HO211.out), (ph_ BK201.out), (ph_ BK202.out), (ph_ BK203.out), (ph_ BK213.out), GW213.out, GE213.out, NB201_213.out, NB213_201.out, NB202_213.out, NB213_202.out, NB203_213.out, NB213_203.out, (hb4_ HB.out GE201.out GE202.out GE203.out GE213.out)⟩)
 rintro ⟨v206, v210, gb213⟩ w13 ⟨hS_, h0_, h1_, h2_, h3_, h4_, h5_, h6_, h7_, h8_, h9_, h10_, h11_, h12_, h13_, h14_, h15_⟩
 have n0_ : Aside0 (Kd.V (Kd.int .u64) 89 w13 w.heap.size (fun k_ => (P1_0_ k_ ∨ w.heap.size ≤ k_) ∧ k_ ≠ gb201 ∧ k_ ≠ gb202 ∧ k_ ≠ gb203 ∧ k_ ≠ gb213) (.slice A1_0 l1_0.length c1_0) l1_0) := ⟨h0_⟩
 have n1_ : Aside0 (Kd.V (Kd.int .u64) 89 w13 w.heap.size (fun k_ => (P1_0_ k_ ∨ w.heap.size ≤ k_) ∧ k_ ≠ gb201 ∧ k_ ≠ gb202 ∧ k_ ≠ gb203 ∧ k_ ≠ gb213) v206 t205) := ⟨h1_⟩
 have n2_ : Aside0 (Kd.V (Kd.int .u64) 89 w13 w.heap.size (fun k_ => (P1_0_ k_ ∨ w.heap.size ≤ k_) ∧ k_ ≠ gb201 ∧ k_ ≠ gb202 ∧ k_ ≠ gb203 ∧ k_ ≠ gb213) v210 t209) := ⟨h2_⟩
 have n3_ : Aside0 (w13.heap[gb201]? = some (.cells #[.bool a0_0, .slice A0_1 l0_1.length c0_1] 99 (0, 0))) := ⟨h3_⟩
 have n4_ : Aside0 (w13.heap[gb202]? = some (.cells #[.slice A1_0 l1_0.length c1_0] 97 (0, 0))) := ⟨h4_⟩
 have n5_ : Aside0 (w13.heap[gb203]? = some (.cells #[.bool false, .slice none 0 0] 99 (0, 0))) := ⟨h5_⟩
 have n6_ : Aside0 (w13.heap[gb213]? = some (.cells #[.bool false, .slice none 0 0] 99 (0, 0))) := ⟨h6_⟩
 have n7_ : Aside0 (w.heap.size ≤ gb213) := ⟨h7_⟩
 have n8_ : Aside0 (w.heap.size ≤ gb213) := ⟨h8_⟩
 have n9_ : Aside0 (gb201 ≠ gb213) := ⟨h9_⟩
 have n10_ : Aside0 (gb213 ≠ gb201) := ⟨h10_⟩
 have n11_ : Aside0 (gb202 ≠ gb213) := ⟨h11_⟩
 have n12_ : Aside0 (gb213 ≠ gb202) := ⟨h12_⟩
 have n13_ : Aside0 (gb203 ≠ gb213) := ⟨h13_⟩
 have n14_ : Aside0 (gb213 ≠ gb203) := ⟨h14_⟩
 have n15_ : Aside0 (Below w.heap.size w w13) := ⟨h15_⟩
 clear HO1_0
 clear BK201
 clear BK202
 clear BK203
 clear HB
 clear h0_ h1_ h2_ h3_ h4_ h5_ h6_ h7_ h8_ h9_ h10_ h11_ h12_ h13_ h14_ h15_
 have HO1_0 := n0_
 have HO207 := n1_
 have HO211 := n2_
 have BK201 := n3_
 have BK202 := n4_
 have BK203 := n5_
 have BK213 := n6_
 have GW213 := n7_
 have GE213 := n8_
 have NB201_213 := n9_
 have NB213_201 := n10_
 have NB202_213 := n11_
 have NB213_202 := n12_
 have NB203_213 := n13_
 have NB213_203 := n14_
 have HB := n15_
 clear n0_ n1_ n2_ n3_ n4_ n5_ n6_ n7_ n8_ n9_ n10_ n11_ n12_ n13_ n14_ n15_
 have hHeld : w13.cell? ⟨gb201, 0, none⟩ = some (.bool a0_0) ∧ w13.cell? ⟨gb201, 1, none⟩ = some (.slice A0_1 l0_1.length c0_1) ∧ w13.cell? ⟨gb202, 0, none⟩ = some (.slice A1_0 l1_0.length c1_0) := hS_
 obtain ⟨Ao15, co15, eo15⟩ := Kd.V_slice HO211.out
 (first | subst eo15 | (injection eo15 with f1_ f2_ f3_; have f4_ := f1_.symm; have f5_ := f3_.symm; clear f1_ f2_ f3_; subst f4_; subst f5_))
 refine norm_ (a' := ?_) ?_ ?_
 rotate_left
 ·simp only [putAll, Act.put, List.setIfInBounds_toArray, List.set_cons_zero, List.set_cons_succ]
  rfl
 refine one_ (i := 8) (N := none) #[true, true, true, true, true, true, true, true, true, false] rfl rfl (one_of HT_.out (by kernel_rfl)) (by decide) (fun K hK => ?_)
 have hs14 : w13.cell? ⟨gb213, 0, none⟩ = some (.bool false) := (blk_cell BK213.out 0).trans rfl
 have hfs14 := blk_frozen BK213.out 0
 have hns14_0 := NB201_213.out
 have hns14_1 := NB202_213.out
 have hns14_2 := NB203_213.out
 have hms14_0 := NB213_201.out
 have hms14_1 := NB213_202.out
 have hms14_2 := NB213_203.out
 have hs16 : w13.cell? ⟨gb213, 1, none⟩ = some (.slice none 0 0) := (blk_cell BK213.out 1).trans rfl
 have hfs16 := blk_frozen BK213.out 1
 have hns16_0 := NB201_213.out
 have hns16_1 := NB202_213.out
 have hns16_2 := NB203_213.out
 have hms16_0 := NB213_201.out
 have hms16_1 := NB213_202.out
 have hms16_2 := NB213_203.out
 refine skip_ (w1 := ?_) (by rfl) rfl ?_ ?_
 rotate_left
 ·go_simp
  rfl
 refine hK.out _ _ ⟨((cell_far (p := ⟨gb213, _, none⟩) NB201_213.out _).trans (((cell_far (p := ⟨gb213, _, none⟩) NB201_213.out _).trans (hHeld.1)))), ((cell_far (p := ⟨gb213, _, none⟩) NB201_213.out _).trans (((cell_far (p := ⟨gb213, _, none⟩) NB201_213.out _).trans (hHeld.2.1)))), ((cell_far (p := ⟨gb213, _, none⟩) NB202_213.out _).trans (((cell_far (p := ⟨gb213, _, none⟩) NB202_213.out _).trans (hHeld.2.2))))⟩ (fun hHeld => ?_)
 clear hK K
 refine pure_ (i := 9) (N := some 6) (v := ?_) (a' := ?_) #[true, true, true, true, true, true, true, true, true, true] rfl rfl (any_of HT_.out (by kernel_rfl)) (fun _ _ _ h => h) (Or.inl ⟨by rfl, ?_⟩) ?_ ?_
 rotate_left
 ·intro w'
  go_simp
  with_reducible rfl
 rotate_left
 ·simp only [Act.put, List.setIfInBounds_toArray, List.set_cons_zero, List.set_cons_succ, i64_w, i32_w]
  rfl
 refine done_ (done_of HT_.out (by kernel_rfl)) ?_
 have hnb17 := NB213_201.out
 have hnc17 := NB201_213.out
 have hnb18 := NB213_202.out
 have hnc18 := NB202_213.out
 have hnb19 := NB213_203.out
 have hnc19 := NB203_213.out
 obtain ⟨hcz20_0, hcz20_1, hfz20_0, hfz20_1⟩ := bx2 BK213.out
 have hnb21 := NB203_201.out
 have hnc21 := NB201_203.out
 have hnb22 := NB203_202.out
 have hnc22 := NB202_203.out
 obtain ⟨hcz23_0, hcz23_1, hfz23_0, hfz23_1⟩ := bx2 BK203.out
 try go_wp2
 refine bodyPost_ret (results_cell_row rfl _ _ gb203 99 #[.bool t208, .slice Ao15 t209.length co15] (0, 0) _ rfl (by (with_reducible repeat (first | refine blk_drewN ?_ _ | refine blk_drew ?_ | refine blk_alloc ?_ _)); refine blk_put (cs := #[.bool t208, .slice none 0 0]) ?_ 1 _ rfl; (with_reducible repeat (first | refine blk_drewN ?_ _ | refine blk_drew ?_ | refine blk_alloc ?_ _)); refine blk_put (cs := #[.bool false, .slice none 0 0]) ?_ 0 _ rfl; (repeat ((with_reducible repeat (first | refine blk_drewN ?_ _ | refine blk_drew ?_ | refine blk_alloc ?_ _)); refine blk_far ?_ NB203_213.out _)); (with_reducible repeat (first | refine blk_drewN ?_ _ | refine blk_drew ?_ | refine blk_alloc ?_ _)); exact BK203.out) Tryz.underlying99 rfl (by kernel_rfl)) rfl ?_
 exact ⟨_, rf_, by (with_reducible repeat (first | apply Kd.V_alloc | apply Kd.V_drewN | apply Kd.V_drew)); exact Kd.V_mono (Kd.V_far (p := ⟨gb203, 1, none⟩) (Kd.V_far (p := ⟨gb203, 0, none⟩) (Kd.V_far (p := ⟨gb213, 1, none⟩) (Kd.V_far (p := ⟨gb213, 0, none⟩) (Kd.V_mono (Kd.V_mono HO211.out (fun k_ hk => (⟨hk, hk.2.2.2.2⟩ : _ ∧ k_ ≠ gb213))) (fun k_ hk => (⟨hk, hk.1.2.2.2.1⟩ : _ ∧ k_ ≠ gb203))) (fun _ hk => hk.1.2) (.bool t208)) (fun _ hk => hk.1.2) (.slice Ao15 t209.length co15)) (fun _ hk => hk.2) (.bool t208)) (fun _ hk => hk.2) (.slice Ao15 t209.length co15)) (fun _ hk => hk.1.1.1), (hb4_ HB.out GE201.out GE202.out GE203.out GE213.out)⟩
end Go.Proofs.YtcljnjnlafkieaaGreatDoorR.PPLA
