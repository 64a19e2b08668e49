-- Written by this session's program (wip/tools/pr.py over the kit's print).
import Derived.Test.YtlboolhjfffppaaGreatDoorPh
import Derived.Test.YtlboolhjfffppaaGreatDoorPBLIx0
import Derived.Test.YtlboolhjfffppaaGreatDoorPBLIx5
import Derived.Test.YtlboolhjfffppaaGreatDoorPBLIx9
namespace Go.Proofs.YtlboolhjfffppaaGreatDoor.PBLI
open Go.RowKit Go.Proofs.YtlboolhjfffppaaGreatDoorW.PrintWords Go.Proofs.YtlboolhjfffppaaGreatDoorW.PrintLast Go.Proofs.YtlboolhjfffppaaGreatDoorW.PrintMore
attribute [local go_sem] max2_int min2_int max_two min_two max_three min_three max_four min_four
set_option linter.unusedVariables false
set_option linter.unusedSimpArgs false
def m10_3 : Array Bool := #[true, true, true, true, true, true, true, true, false, false]
def m10_7 : Array Bool := #[true, true, true, false, false, false, false, true, false, false]
def m10_11 : Array Bool := #[true, true, true, true, false, false, false, true, false, false]
def m10_12 : Array Bool := #[true, true, true, true, true, false, false, true, false, false]
def m10_13 : Array Bool := #[true, true, true, true, true, true, false, true, false, false]
def rat_scaled.f (k : Nat) (a0_0 : Bool) (l0_1 : List Int) (l1_0 : List Int) : Option (Bool × List Int) := (whole_New.f false l1_0).bind fun bt183 => ((whole_Mul.f k a0_0 l0_1 bt183.1 bt183.2).bind fun bt187 => (some (bt187.1, bt187.2.1)))
def rat_scaled.T1 : Bool × List (List Nat × List Nat) := (true, [([], []), ([], []), ([1], [1]), ([0, 2, 2], [0, 2]), ([3], [3]), ([4], [4]), ([4], [4]), ([], []), ([7, 5, 3, 0, 1, 2, 3, 4, 5, 7], [5, 7]), ([6, 8, 0, 1, 2, 3, 4, 5, 6, 7, 8], [6])])
def rat_scaled.B1 : List Nat := [0, 0, 2, 7, 15, 31, 31, 0, 191, 511]
theorem rat_scaled.tab1 : rtab .any (opsOf Tryz.f77 1) = rat_scaled.T1 := by kernel_rfl
theorem rat_scaled.bits1 : waitsOk rat_scaled.T1.2 rat_scaled.B1 = true := by kernel_rfl
set_option maxHeartbeats 8000000 in
set_option maxRecDepth 100000 in
theorem rat_scaled.calls (k : Nat) (a0_0 : Bool) (A0_1 : Option Addr) (c0_1 : Nat) (l0_1 : List Int) (P1_0_ : Nat → Prop) (A1_0 : Option Addr) (c1_0 : Nat) (l1_0 : List Int) (r1 : Bool) (r2 : List Int) (w : World) (hr0_1 : Kd.C (Kd.int .u64) w A0_1 l0_1.length l0_1) (hc0_1 : l0_1.length ≤ c0_1) (hs1_0 : Kd.V (Kd.int .u64) 92 w w.heap.size (fun k_ => P1_0_ k_) (.slice A1_0 l1_0.length c1_0) l1_0) (h : rat_scaled.f k a0_0 l0_1 l1_0 = some (r1, r2)) :
  Calls Tryz.prog 77 #[.agg #[.bool a0_0, .slice A0_1 l0_1.length c0_1], .agg #[.slice A1_0 l1_0.length c1_0]] w fun e w' => ∃ v1_ : Value, e = .returned (.agg #[.bool r1, v1_]) ∧ Kd.V (Kd.int .u64) 92 w' w.heap.size (fun k_ => (P1_0_ k_ ∨ w.heap.size ≤ k_)) v1_ r2 ∧ Below w.heap.size w w' := by
 have hu83 := Tryz.underlying83
 have hu81 := Tryz.underlying81
 have HR0_1 := Aside0.mk hr0_1
 have HC0_1 := Aside0.mk hc0_1
 clear hr0_1 hc0_1
 have HO1_0 := Aside0.mk (show Kd.V (Kd.int .u64) 92 w w.heap.size (fun k_ => (P1_0_ k_ ∨ w.heap.size ≤ k_)) (.slice A1_0 l1_0.length c1_0) l1_0 from Kd.V_mono hs1_0 (fun k_ hk => .inl hk))
 have HB := Aside0.mk (Below.refl w.heap.size w)
 have H : ((whole_New.f false l1_0).bind fun bt183 => ((whole_Mul.f k a0_0 l0_1 bt183.1 bt183.2).bind fun bt187 => (some (bt187.1, bt187.2.1)))) = some (r1, r2) := h
 clear h
 replace H := Option.bind_eq_some_iff.mp H
 obtain ⟨⟨t183, t184⟩, A30, H⟩ := H
 replace H : ((whole_Mul.f k a0_0 l0_1 t183 t184).bind fun bt187 => (some (bt187.1, bt187.2.1))) = some (r1, r2) := H
 have A3 := Aside0.mk A30
 clear A30
 replace H := Option.bind_eq_some_iff.mp H
 obtain ⟨⟨t187, t188, t191⟩, A40, H⟩ := H
 replace H : (some (t187, t188)) = some (r1, r2) := H
 have A4 := Aside0.mk A40
 clear A40
 simp only [Option.some.injEq, Prod.mk.injEq] at H
 obtain ⟨rfl, rfl⟩ := H
 go_enter Tryz.func77, Tryz.ntmps77
 try go_wp2_with (first | ((with_reducible refine gate_dst (N := 2) rfl ?_); refine box_event ?hg (N := 2) ?hd (cs := #[.bool a0_0, .slice A0_1 l0_1.length c0_1]) (t := 83) ?hr ?_; (case hd => rfl); (case hg => rfl); (case hr => first | (go_simp; done) | (go_simp; rfl)); intro gb180 hg w5 hbox hb; have n0_ := Aside0.mk (Kd.V_below (Kd.V_elderB (by (with_reducible repeat (first | apply Kd.V_alloc | apply Kd.V_drewN | apply Kd.V_drew)); exact HO1_0.out) gb180 (Nat.le_of_eq hg.symm)) hb); have n1_ := Aside0.mk (below_step (hb0_ HB.out) hb); have n2_ := Aside0.mk (hbox); have n3_ := Aside0.mk ((by rw [hg]; exact (below_size (hb0_ HB.out)) : w.heap.size ≤ gb180)); have n4_ := Aside0.mk ((by rw [hg]; exact (below_size (hb0_ HB.out)) : w.heap.size ≤ gb180)); clear HO1_0; clear HB; have HO1_0 := n0_; have HB := n1_; have BK180 := n2_; have GW180 := n3_; have GE180 := n4_; clear n0_ n1_ n2_ n3_ n4_; clear hb hbox hg) | ((with_reducible refine gate_dst (N := 3) rfl ?_); refine box_event ?hg (N := 3) ?hd (cs := #[.slice A1_0 l1_0.length c1_0]) (t := 81) ?hr ?_; (case hd => rfl); (case hg => rfl); (case hr => first | (go_simp; done) | (go_simp; rfl)); intro gb181 hg w6 hbox hb; have n0_ := Aside0.mk (Kd.V_below (Kd.V_elderB (by (with_reducible repeat (first | apply Kd.V_alloc | apply Kd.V_drewN | apply Kd.V_drew)); exact HO1_0.out) gb181 (Nat.le_of_eq hg.symm)) hb); have n1_ := Aside0.mk (blk_below (g := gb180) (o := .cells #[.bool a0_0, .slice A0_1 l0_1.length c0_1] 83 (0, 0)) (ph_ BK180.out) hb); have n2_ := Aside0.mk (below_step (hb1_ HB.out GE180.out) hb); have n3_ := Aside0.mk (hbox); have n4_ := Aside0.mk ((by rw [hg]; exact (below_size (hb1_ HB.out GE180.out)) : w.heap.size ≤ gb181)); have n5_ := n4_; have n6_ := Aside0.mk ((by rw [hg]; exact Nat.ne_of_lt (blk_lt (g := gb180) (o := .cells #[.bool a0_0, .slice A0_1 l0_1.length c0_1] 83 (0, 0)) (ph_ BK180.out)) : gb180 ≠ gb181)); have n7_ := Aside0.mk ((by rw [hg]; exact Nat.ne_of_gt (blk_lt (g := gb180) (o := .cells #[.bool a0_0, .slice A0_1 l0_1.length c0_1] 83 (0, 0)) (ph_ BK180.out)) : gb181 ≠ gb180)); clear HO1_0; clear BK180; clear HB; have HO1_0 := n0_; have BK180 := n1_; have HB := n2_; have BK181 := n3_; have GW181 := n4_; have GE181 := n5_; have NB180_181 := n6_; have NB181_180 := n7_; clear n0_ n1_ n2_ n3_ n4_ n5_ n6_ n7_; clear hb hbox hg) | ((with_reducible refine gate_dst (N := 4) rfl ?_); refine box_event ?hg (N := 4) ?hd (cs := #[.bool false, .slice none 0 0]) (t := 83) ?hr ?_; (case hd => rfl); (case hg => rfl); (case hr => first | (go_simp; done) | (go_simp; rfl)); intro gb182 hg w7 hbox hb; have n0_ := Aside0.mk (Kd.V_below (Kd.V_elderB (by (with_reducible repeat (first | apply Kd.V_alloc | apply Kd.V_drewN | apply Kd.V_drew)); exact HO1_0.out) gb182 (Nat.le_of_eq hg.symm)) hb); have n1_ := Aside0.mk (blk_below (g := gb180) (o := .cells #[.bool a0_0, .slice A0_1 l0_1.length c0_1] 83 (0, 0)) (ph_ BK180.out) hb); have n2_ := Aside0.mk (blk_below (g := gb181) (o := .cells #[.slice A1_0 l1_0.length c1_0] 81 (0, 0)) (ph_ BK181.out) hb); have n3_ := Aside0.mk (below_step (hb2_ HB.out GE180.out GE181.out) hb); have n4_ := Aside0.mk (hbox); have n5_ := Aside0.mk ((by rw [hg]; exact (below_size (hb2_ HB.out GE180.out GE181.out)) : w.heap.size ≤ gb182)); have n6_ := n5_; have n7_ := Aside0.mk ((by rw [hg]; exact Nat.ne_of_lt (blk_lt (g := gb180) (o := .cells #[.bool a0_0, .slice A0_1 l0_1.length c0_1] 83 (0, 0)) (ph_ BK180.out)) : gb180 ≠ gb182)); have n8_ := Aside0.mk ((by rw [hg]; exact Nat.ne_of_gt (blk_lt (g := gb180) (o := .cells #[.bool a0_0, .slice A0_1 l0_1.length c0_1] 83 (0, 0)) (ph_ BK180.out)) : gb182 ≠ gb180)); have n9_ := Aside0.mk ((by rw [hg]; exact Nat.ne_of_lt (blk_lt (g := gb181) (o := .cells #[.slice A1_0 l1_0.length c1_0] 81 (0, 0)) (ph_ BK181.out)) : gb181 ≠ gb182)); have n10_ := Aside0.mk ((by rw [hg]; exact Nat.ne_of_gt (blk_lt (g := gb181) (o := .cells #[.slice A1_0 l1_0.length c1_0] 81 (0, 0)) (ph_ BK181.out)) : gb182 ≠ gb181)); clear HO1_0; clear BK180; clear BK181; clear HB; have HO1_0 := n0_; have BK180 := n1_; have BK181 := n2_; have HB := n3_; have BK182 := n4_; have GW182 := n5_; have GE182 := n6_; have NB180_182 := n7_; have NB182_180 := n8_; have NB181_182 := n9_; have NB182_181 := n10_; clear n0_ n1_ n2_ n3_ n4_ n5_ n6_ n7_ n8_ n9_ n10_; clear hb hbox hg))
 have n0_ := Aside0.mk (Kd.V_drew HO1_0.out)
 have n1_ := Aside0.mk (blk_drew BK180.out)
 have n2_ := Aside0.mk (blk_drew BK181.out)
 have n3_ := Aside0.mk (blk_drew BK182.out)
 have n4_ := Aside0.mk (below_drew1 HB.out)
 clear HO1_0
 clear BK180
 clear BK181
 clear BK182
 clear HB
 have HO1_0 := n0_
 have BK180 := n1_
 have BK181 := n2_
 have BK182 := n3_
 have HB := n4_
 clear n0_ n1_ n2_ n3_ n4_
 refine start_ (n := 10) (S := fun w' => w'.cell? ⟨gb180, 0, none⟩ = some (.bool a0_0) ∧ w'.cell? ⟨gb180, 1, none⟩ = some (.slice A0_1 l0_1.length c0_1) ∧ w'.cell? ⟨gb181, 0, none⟩ = some (.slice A1_0 l1_0.length c1_0)) (ds := []) #[false, false, false, false, false, false, false, false, false, false] (by kernel_rfl) rfl rfl ⟨(blk_cell BK180.out 0).trans rfl, (blk_cell BK180.out 1).trans rfl, (blk_cell BK181.out 0).trans rfl⟩ (fun hHeld => ?_); refine with_tabW rat_scaled.tab1 rat_scaled.bits1 (fun HT_ HW_ => ?_)
 generalize w7.drew = w8 at HO1_0 BK180 BK181 BK182 HB hHeld ⊢
 refine take_ (i := 0) (N := some 8) (v := ?_) (a' := ?_) #[true, false, false, false, false, false, false, false, false, false] rfl rfl (take_ofW HT_.out HW_.out (by kernel_rfl)) (fun _ _ _ h => h) (Or.inl ⟨by rfl, ?_⟩) hHeld ?_ ?_
 rotate_left
 ·rintro w' ⟨s0, s1, s2⟩
  go_simp
  with_reducible rfl
 rotate_left
 ·simp only [Act.put, List.setIfInBounds_toArray, List.set_cons_zero, List.set_cons_succ, i64_w, i32_w]
  rfl
 refine take_ (i := 1) (N := some 9) (v := ?_) (a' := ?_) #[true, true, false, false, false, false, false, false, false, false] rfl rfl (take_ofW HT_.out HW_.out (by kernel_rfl)) (fun _ _ _ h => h) (Or.inl ⟨by rfl, ?_⟩) hHeld ?_ ?_
 rotate_left
 ·rintro w' ⟨s0, s1, s2⟩
  go_simp
  with_reducible rfl
 rotate_left
 ·simp only [Act.put, List.setIfInBounds_toArray, List.set_cons_zero, List.set_cons_succ, i64_w, i32_w]
  rfl
 refine join_ (σ := Value × Value × Nat) 2 m10_3 (fun s_ => [(10, .agg #[.bool t183, s_.1]), (11, .tuple #[.agg #[.bool t187, s_.2.1], .int .i64 t191]), (5, .pointer (some ⟨s_.2.2, 0, none⟩)), (7, .tuple #[.agg #[.bool t187, s_.2.1], .int .i64 t191]), (12, .agg #[.bool t187, s_.2.1]), (13, .int .i64 t191)]) (fun s_ w' => (w'.cell? ⟨gb180, 0, none⟩ = some (.bool a0_0) ∧ w'.cell? ⟨gb180, 1, none⟩ = some (.slice A0_1 l0_1.length c0_1) ∧ w'.cell? ⟨gb181, 0, none⟩ = some (.slice A1_0 l1_0.length c1_0)) ∧ (Kd.V (Kd.int .u64) 92 w' w.heap.size (fun k_ => (P1_0_ k_ ∨ w.heap.size ≤ k_) ∧ k_ ≠ gb180 ∧ k_ ≠ gb181 ∧ k_ ≠ gb182 ∧ k_ ≠ s_.2.2) s_.1 t184) ∧ (Kd.V (Kd.int .u64) 92 w' w.heap.size (fun k_ => (P1_0_ k_ ∨ w.heap.size ≤ k_) ∧ k_ ≠ gb180 ∧ k_ ≠ gb181 ∧ k_ ≠ gb182 ∧ k_ ≠ s_.2.2) s_.2.1 t188) ∧ (Kd.V (Kd.int .u64) 92 w' w.heap.size (fun k_ => (P1_0_ k_ ∨ w.heap.size ≤ k_) ∧ k_ ≠ gb180 ∧ k_ ≠ gb181 ∧ k_ ≠ gb182 ∧ k_ ≠ s_.2.2) (.slice A1_0 l1_0.length c1_0) l1_0) ∧ (w'.heap[gb180]? = some (.cells #[.bool a0_0, .slice A0_1 l0_1.length c0_1] 83 (0, 0))) ∧ (w'.heap[gb181]? = some (.cells #[.slice A1_0 l1_0.length c1_0] 81 (0, 0))) ∧ (w'.heap[gb182]? = some (.cells #[.bool false, .slice none 0 0] 83 (0, 0))) ∧ (w'.heap[s_.2.2]? = some (.cells #[.bool false, .slice none 0 0] 83 (0, 0))) ∧ (w.heap.size ≤ s_.2.2) ∧ (w.heap.size ≤ s_.2.2) ∧ (gb180 ≠ s_.2.2) ∧ (s_.2.2 ≠ gb180) ∧ (gb181 ≠ s_.2.2) ∧ (s_.2.2 ≠ gb181) ∧ (gb182 ≠ s_.2.2) ∧ (s_.2.2 ≠ gb182) ∧ (Below w.heap.size w w')) ?_ ?_
 rotate_left
 ·intro hCont
  refine two_ (i := 2) (j := 7) (Ni := some 10) (Nj := some 5) #[true, true, true, false, false, false, false, false, false, false] #[true, true, false, false, false, false, false, true, false, false] rfl rfl rfl rfl (two_of HT_.out (by kernel_rfl)) (by decide) (by decide) (fun K hK => ?_) (fun K hK => ?_)
  ·skip
   refine goes_ Tryz.func108 (by kernel_rfl) rfl #[.bool false, .agg #[.slice A1_0 l1_0.length c1_0]] (by rfl) rfl rfl (by (try simp only [List.map_toArray, List.map_cons, List.map_nil]); first | done | rfl | (simp only [List.length_drop, List.length_take]; rfl)) ?_
   with_reducible refine (whole_New.calls false (fun k_ => ((((P1_0_ k_ ∨ w.heap.size ≤ k_) ∧ k_ ≠ gb180) ∧ k_ ≠ gb181) ∧ k_ ≠ gb182)) _ _ l1_0 t183 t184 _ ?side1 A3.out).mono ?_
   (case side1 => exact HO1_0.out)
   rintro e w9 ⟨v185, rfl, ho0, hb⟩
   refine ⟨_, rfl, ?_⟩
   have n0_ := Aside0.mk (Kd.V_below (by (with_reducible repeat (first | apply Kd.V_alloc | apply Kd.V_drewN | apply Kd.V_drew)); exact HO1_0.out) hb)
   have n1_ := Aside0.mk (Kd.V_lower (Kd.V_mono (ok' := fun k_ => (P1_0_ k_ ∨ w.heap.size ≤ k_) ∧ k_ ≠ gb180 ∧ k_ ≠ gb181 ∧ k_ ≠ gb182) ho0 (fun k_ hk_ => ⟨Or.elim hk_ (fun hs_ => hs_.1.1.1) (fun hn_ => (.inr (Nat.le_trans (below_size (hb3_ HB.out GE180.out GE181.out GE182.out)) hn_))), Or.elim hk_ (fun hs_ => hs_.1.1.2) (fun hn_ => (Kd.freshB (g := gb180) (o := .cells #[.bool a0_0, .slice A0_1 l0_1.length c0_1] 83 (0, 0)) (ph_ BK180.out) k_ hn_)), Or.elim hk_ (fun hs_ => hs_.1.2) (fun hn_ => (Kd.freshB (g := gb181) (o := .cells #[.slice A1_0 l1_0.length c1_0] 81 (0, 0)) (ph_ BK181.out) k_ hn_)), Or.elim hk_ (fun hs_ => hs_.2) (fun hn_ => (Kd.freshB (g := gb182) (o := .cells #[.bool false, .slice none 0 0] 83 (0, 0)) (ph_ BK182.out) k_ hn_))⟩)) (below_size (hb3_ HB.out GE180.out GE181.out GE182.out)))
   have n2_ := Aside0.mk (blk_below (g := gb180) (o := .cells #[.bool a0_0, .slice A0_1 l0_1.length c0_1] 83 (0, 0)) (ph_ BK180.out) hb)
   have n3_ := Aside0.mk (blk_below (g := gb181) (o := .cells #[.slice A1_0 l1_0.length c1_0] 81 (0, 0)) (ph_ BK181.out) hb)
   have n4_ := Aside0.mk (blk_below (g := gb182) (o := .cells #[.bool false, .slice none 0 0] 83 (0, 0)) (ph_ BK182.out) hb)
   have n5_ := Aside0.mk (below_step (hb3_ HB.out GE180.out GE181.out GE182.out) hb)
   clear HO1_0
   clear BK180
   clear BK181
   clear BK182
   clear HB
   have HO1_0 := n0_
   have HO186 := n1_
   have BK180 := n2_
   have BK181 := n3_
   have BK182 := n4_
   have HB := n5_
   clear n0_ n1_ n2_ n3_ n4_ n5_
   (try clear hb)
   (try clear hb2)
   (try clear hk)
   (try clear hi)
   (try clear ho0)
   obtain ⟨Ao10, co10, eo10⟩ := Kd.V_slice HO186.out
   (first | subst eo10 | (injection eo10 with f1_ f2_ f3_; have f4_ := f1_.symm; have f5_ := f3_.symm; clear f1_ f2_ f3_; subst f4_; subst f5_))
   refine hK.out _ _ ⟨(blk_cell BK180.out 0).trans rfl, (blk_cell BK180.out 1).trans rfl, (blk_cell BK181.out 0).trans rfl⟩ (fun hHeld => ?_)
   clear hK K
   refine norm_ (a' := ?_) ?_ ?_
   rotate_left
   ·show Act.put _ (some 10) _ = _
    simp only [Act.put, List.setIfInBounds_toArray, List.set_cons_zero, List.set_cons_succ, i64_w, i32_w]
    rfl
   refine two_ (i := 3) (j := 7) (Ni := some 11) (Nj := some 5) #[true, true, true, true, false, false, false, false, false, false] m10_7 rfl rfl rfl rfl (two_of HT_.out (by kernel_rfl)) (by decide) (by decide) (fun K hK => ?_) (fun K hK => ?_)
   ·skip
    refine goes_ Tryz.func112 (by kernel_rfl) rfl #[.agg #[.bool a0_0, .slice A0_1 l0_1.length c0_1], .agg #[.bool t183, .slice Ao10 t184.length co10]] (by rfl) rfl rfl (by (try simp only [List.map_toArray, List.map_cons, List.map_nil]); first | done | rfl | (simp only [List.length_drop, List.length_take]; rfl)) ?_
    with_reducible refine (whole_Mul.calls k a0_0 _ _ l0_1 t183 _ _ t184 t187 t188 t191 _ ?side1 ?side2 ?side3 ?side4 A4.out).mono ?_
    (case side1 => repeat (first | exact (Kd.C_below HR0_1.out HB.out) | (with_reducible refine Kd.C_alloc ?_ _) | (with_reducible refine Kd.C_drewN ?_ _) | (with_reducible refine Kd.C_drew ?_)))
    (case side2 => exact HC0_1.out)
    (case side3 => repeat (first | exact (Kd.V_reads' HO186.out).2.2 | (with_reducible refine Kd.C_alloc ?_ _) | (with_reducible refine Kd.C_drewN ?_ _) | (with_reducible refine Kd.C_drew ?_)))
    (case side4 => exact (Kd.V_reads' HO186.out).2.1)
    rintro e w11 ⟨v189, rfl, ho0, hb⟩
    refine ⟨_, rfl, ?_⟩
    have n0_ := Aside0.mk (Kd.V_below (by (with_reducible repeat (first | apply Kd.V_alloc | apply Kd.V_drewN | apply Kd.V_drew)); exact HO1_0.out) hb)
    have n1_ := Aside0.mk (Kd.V_below (by (with_reducible repeat (first | apply Kd.V_alloc | apply Kd.V_drewN | apply Kd.V_drew)); exact HO186.out) hb)
    have n2_ := Aside0.mk (Kd.V_lower (Kd.V_mono (ok' := fun k_ => (P1_0_ k_ ∨ w.heap.size ≤ k_) ∧ k_ ≠ gb180 ∧ k_ ≠ gb181 ∧ k_ ≠ gb182) ho0 (fun k_ hk_ => ⟨(.inr (Nat.le_trans (below_size (hb3_ HB.out GE180.out GE181.out GE182.out)) hk_)), (Kd.freshB (g := gb180) (o := .cells #[.bool a0_0, .slice A0_1 l0_1.length c0_1] 83 (0, 0)) (ph_ BK180.out) k_ hk_), (Kd.freshB (g := gb181) (o := .cells #[.slice A1_0 l1_0.length c1_0] 81 (0, 0)) (ph_ BK181.out) k_ hk_), (Kd.freshB (g := gb182) (o := .cells #[.bool false, .slice none 0 0] 83 (0, 0)) (ph_ BK182.out) k_ hk_)⟩)) (below_size (hb3_ HB.out GE180.out GE181.out GE182.out)))
    have n3_ := Aside0.mk (blk_below (g := gb180) (o := .cells #[.bool a0_0, .slice A0_1 l0_1.length c0_1] 83 (0, 0)) (ph_ BK180.out) hb)
    have n4_ := Aside0.mk (blk_below (g := gb181) (o := .cells #[.slice A1_0 l1_0.length c1_0] 81 (0, 0)) (ph_ BK181.out) hb)
    have n5_ := Aside0.mk (blk_below (g := gb182) (o := .cells #[.bool false, .slice none 0 0] 83 (0, 0)) (ph_ BK182.out) hb)
    have n6_ := Aside0.mk (below_step (hb3_ HB.out GE180.out GE181.out GE182.out) hb)
    clear HO1_0
    clear HO186
    clear BK180
    clear BK181
    clear BK182
    clear HB
    have HO1_0 := n0_
    have HO186 := n1_
    have HO190 := n2_
    have BK180 := n3_
    have BK181 := n4_
    have BK182 := n5_
    have HB := n6_
    clear n0_ n1_ n2_ n3_ n4_ n5_ n6_
    (try clear hb)
    (try clear hb2)
    (try clear hk)
    (try clear hi)
    (try clear ho0)
    refine hK.out _ _ ⟨(blk_cell BK180.out 0).trans rfl, (blk_cell BK180.out 1).trans rfl, (blk_cell BK181.out 0).trans rfl⟩ (fun hHeld => ?_)
    clear hK K
    refine norm_ (a' := ?_) ?_ ?_
    rotate_left
    ·show Act.put _ (some 11) _ = _
     simp only [Act.put, List.setIfInBounds_toArray, List.set_cons_zero, List.set_cons_succ, i64_w, i32_w]
     rfl
    refine pure_ (i := 4) (N := some 7) (v := ?_) (a' := ?_) #[true, true, true, true, true, false, false, false, false, false] rfl rfl (any_of HT_.out (by kernel_rfl)) (fun _ _ _ h => h) (Or.inl ⟨by rfl, ?_⟩) ?_ ?_
    rotate_left
    ·intro w'
     go_simp
     with_reducible rfl
    rotate_left
    ·simp only [Act.put, List.setIfInBounds_toArray, List.set_cons_zero, List.set_cons_succ, i64_w, i32_w]
     rfl
    refine pure_ (i := 5) (N := some 12) (v := ?_) (a' := ?_) #[true, true, true, true, true, true, false, false, false, false] rfl rfl (any_of HT_.out (by kernel_rfl)) (fun _ _ _ h => h) (Or.inl ⟨by rfl, ?_⟩) ?_ ?_
    rotate_left
    ·intro w'
     go_simp
     with_reducible rfl
    rotate_left
    ·simp only [Act.put, List.setIfInBounds_toArray, List.set_cons_zero, List.set_cons_succ, i64_w, i32_w]
     rfl
    refine pure_ (i := 6) (N := some 13) (v := ?_) (a' := ?_) #[true, true, true, true, true, true, true, false, false, false] rfl rfl (any_of HT_.out (by kernel_rfl)) (fun _ _ _ h => h) (Or.inl ⟨by rfl, ?_⟩) ?_ ?_
    rotate_left
    ·intro w'
     go_simp
     with_reducible rfl
    rotate_left
    ·simp only [Act.put, List.setIfInBounds_toArray, List.set_cons_zero, List.set_cons_succ, i64_w, i32_w]
     rfl
    refine one_ (i := 7) (N := some 5) m10_3 rfl rfl (one_of HT_.out (by kernel_rfl)) (by decide) (fun K hK => ?_)
    refine box_step ?hg (N := 5) ?hd (cs := #[.bool false, .slice none 0 0]) (t := 83) ?hr ?_; (case hd => rfl); (case hg => rfl); (case hr => first | (go_simp; done) | (go_simp; rfl))
    intro gb192 hg w12 hbox hb
    have n0_ := Aside0.mk (Kd.V_below (Kd.V_elderB (by (with_reducible repeat (first | apply Kd.V_alloc | apply Kd.V_drewN | apply Kd.V_drew)); exact HO1_0.out) gb192 (Nat.le_of_eq hg.symm)) hb)
    have n1_ := Aside0.mk (Kd.V_below (Kd.V_elderB (by (with_reducible repeat (first | apply Kd.V_alloc | apply Kd.V_drewN | apply Kd.V_drew)); exact HO186.out) gb192 (Nat.le_of_eq hg.symm)) hb)
    have n2_ := Aside0.mk (Kd.V_below (Kd.V_elderB (by (with_reducible repeat (first | apply Kd.V_alloc | apply Kd.V_drewN | apply Kd.V_drew)); exact HO190.out) gb192 (Nat.le_of_eq hg.symm)) hb)
    have n3_ := Aside0.mk (blk_below (g := gb180) (o := .cells #[.bool a0_0, .slice A0_1 l0_1.length c0_1] 83 (0, 0)) (ph_ BK180.out) hb)
    have n4_ := Aside0.mk (blk_below (g := gb181) (o := .cells #[.slice A1_0 l1_0.length c1_0] 81 (0, 0)) (ph_ BK181.out) hb)
    have n5_ := Aside0.mk (blk_below (g := gb182) (o := .cells #[.bool false, .slice none 0 0] 83 (0, 0)) (ph_ BK182.out) hb)
    have n6_ := Aside0.mk (below_step (hb3_ HB.out GE180.out GE181.out GE182.out) hb)
    have n7_ := Aside0.mk (hbox)
    have n8_ := Aside0.mk ((by rw [hg]; exact (below_size (hb3_ HB.out GE180.out GE181.out GE182.out)) : w.heap.size ≤ gb192))
    have n9_ := Aside0.mk ((by rw [hg]; exact (below_size (hb3_ HB.out GE180.out GE181.out GE182.out)) : w.heap.size ≤ gb192))
    have n10_ := Aside0.mk ((by rw [hg]; exact Nat.ne_of_lt (blk_lt (g := gb180) (o := .cells #[.bool a0_0, .slice A0_1 l0_1.length c0_1] 83 (0, 0)) (ph_ BK180.out)) : gb180 ≠ gb192))
    have n11_ := Aside0.mk ((by rw [hg]; exact Nat.ne_of_gt (blk_lt (g := gb180) (o := .cells #[.bool a0_0, .slice A0_1 l0_1.length c0_1] 83 (0, 0)) (ph_ BK180.out)) : gb192 ≠ gb180))
    have n12_ := Aside0.mk ((by rw [hg]; exact Nat.ne_of_lt (blk_lt (g := gb181) (o := .cells #[.slice A1_0 l1_0.length c1_0] 81 (0, 0)) (ph_ BK181.out)) : gb181 ≠ gb192))
    have n13_ := Aside0.mk ((by rw [hg]; exact Nat.ne_of_gt (blk_lt (g := gb181) (o := .cells #[.slice A1_0 l1_0.length c1_0] 81 (0, 0)) (ph_ BK181.out)) : gb192 ≠ gb181))
    have n14_ := Aside0.mk ((by rw [hg]; exact Nat.ne_of_lt (blk_lt (g := gb182) (o := .cells #[.bool false, .slice none 0 0] 83 (0, 0)) (ph_ BK182.out)) : gb182 ≠ gb192))
    have n15_ := Aside0.mk ((by rw [hg]; exact Nat.ne_of_gt (blk_lt (g := gb182) (o := .cells #[.bool false, .slice none 0 0] 83 (0, 0)) (ph_ BK182.out)) : gb192 ≠ gb182))
    clear HO1_0
    clear HO186
    clear HO190
    clear BK180
    clear BK181
    clear BK182
    clear HB
    have HO1_0 := n0_
    have HO186 := n1_
    have HO190 := n2_
    have BK180 := n3_
    have BK181 := n4_
    have BK182 := n5_
    have HB := n6_
    have BK192 := n7_
    have GW192 := n8_
    have GE192 := n9_
    have NB180_192 := n10_
    have NB192_180 := n11_
    have NB181_192 := n12_
    have NB192_181 := n13_
    have NB182_192 := n14_
    have NB192_182 := n15_
    clear n0_ n1_ n2_ n3_ n4_ n5_ n6_ n7_ n8_ n9_ n10_ n11_ n12_ n13_ n14_ n15_
    clear hb hbox hg
    refine hK.out _ _ ⟨(blk_cell BK180.out 0).trans rfl, (blk_cell BK180.out 1).trans rfl, (blk_cell BK181.out 0).trans rfl⟩ (fun hHeld => ?_)
    clear hK K
    refine norm_ (a' := ?_) ?_ ?_
    rotate_left
    ·show Act.put _ (some 5) _ = _
     simp only [Act.put, List.setIfInBounds_toArray, List.set_cons_zero, List.set_cons_succ, i64_w, i32_w]
     rfl
    exact norm_ (by simp only [putAll, Act.put, List.setIfInBounds_toArray, List.set_cons_zero, List.set_cons_succ]) (hCont (.slice Ao10 t184.length co10, v189, gb192) _ ⟨hHeld, (by (with_reducible repeat (first | apply Kd.V_alloc | apply Kd.V_drewN | apply Kd.V_drew)); exact Kd.V_mono HO186.out (fun _ hk => ⟨hk.1.1, ⟨hk.1.2.1, ⟨hk.1.2.2.1, ⟨hk.1.2.2.2, hk.2⟩⟩⟩⟩)), (by (with_reducible repeat (first | apply Kd.V_alloc | apply Kd.V_drewN | apply Kd.V_drew)); exact Kd.V_mono HO190.out (fun _ hk => ⟨hk.1.1, ⟨hk.1.2.1, ⟨hk.1.2.2.1, ⟨hk.1.2.2.2, hk.2⟩⟩⟩⟩)), (by (with_reducible repeat (first | apply Kd.V_alloc | apply Kd.V_drewN | apply Kd.V_drew)); exact Kd.V_mono HO1_0.out (fun _ hk => ⟨hk.1.1.1.1, ⟨hk.1.1.1.2, ⟨hk.1.1.2, ⟨hk.1.2, hk.2⟩⟩⟩⟩)), (ph_ BK180.out), (ph_ BK181.out), (ph_ BK182.out), (ph_ BK192.out), GW192.out, GE192.out, NB180_192.out, NB192_180.out, NB181_192.out, NB192_181.out, NB182_192.out, NB192_182.out, (hb4_ HB.out GE180.out GE181.out GE182.out GE192.out)⟩)
   ·skip
    refine box_step ?hg (N := 5) ?hd (cs := #[.bool false, .slice none 0 0]) (t := 83) ?hr ?_; (case hd => rfl); (case hg => rfl); (case hr => first | (go_simp; done) | (go_simp; rfl))
    intro gb192 hg w10 hbox hb
    have n0_ := Aside0.mk (Kd.V_below (Kd.V_elderB (by (with_reducible repeat (first | apply Kd.V_alloc | apply Kd.V_drewN | apply Kd.V_drew)); exact HO1_0.out) gb192 (Nat.le_of_eq hg.symm)) hb)
    have n1_ := Aside0.mk (Kd.V_below (Kd.V_elderB (by (with_reducible repeat (first | apply Kd.V_alloc | apply Kd.V_drewN | apply Kd.V_drew)); exact HO186.out) gb192 (Nat.le_of_eq hg.symm)) hb)
    have n2_ := Aside0.mk (blk_below (g := gb180) (o := .cells #[.bool a0_0, .slice A0_1 l0_1.length c0_1] 83 (0, 0)) (ph_ BK180.out) hb)
    have n3_ := Aside0.mk (blk_below (g := gb181) (o := .cells #[.slice A1_0 l1_0.length c1_0] 81 (0, 0)) (ph_ BK181.out) hb)
    have n4_ := Aside0.mk (blk_below (g := gb182) (o := .cells #[.bool false, .slice none 0 0] 83 (0, 0)) (ph_ BK182.out) hb)
    have n5_ := Aside0.mk (below_step (hb3_ HB.out GE180.out GE181.out GE182.out) hb)
    have n6_ := Aside0.mk (hbox)
    have n7_ := Aside0.mk ((by rw [hg]; exact (below_size (hb3_ HB.out GE180.out GE181.out GE182.out)) : w.heap.size ≤ gb192))
    have n8_ := Aside0.mk ((by rw [hg]; exact (below_size (hb3_ HB.out GE180.out GE181.out GE182.out)) : w.heap.size ≤ gb192))
    have n9_ := Aside0.mk ((by rw [hg]; exact Nat.ne_of_lt (blk_lt (g := gb180) (o := .cells #[.bool a0_0, .slice A0_1 l0_1.length c0_1] 83 (0, 0)) (ph_ BK180.out)) : gb180 ≠ gb192))
    have n10_ := Aside0.mk ((by rw [hg]; exact Nat.ne_of_gt (blk_lt (g := gb180) (o := .cells #[.bool a0_0, .slice A0_1 l0_1.length c0_1] 83 (0, 0)) (ph_ BK180.out)) : gb192 ≠ gb180))
    have n11_ := Aside0.mk ((by rw [hg]; exact Nat.ne_of_lt (blk_lt (g := gb181) (o := .cells #[.slice A1_0 l1_0.length c1_0] 81 (0, 0)) (ph_ BK181.out)) : gb181 ≠ gb192))
    have n12_ := Aside0.mk ((by rw [hg]; exact Nat.ne_of_gt (blk_lt (g := gb181) (o := .cells #[.slice A1_0 l1_0.length c1_0] 81 (0, 0)) (ph_ BK181.out)) : gb192 ≠ gb181))
    have n13_ := Aside0.mk ((by rw [hg]; exact Nat.ne_of_lt (blk_lt (g := gb182) (o := .cells #[.bool false, .slice none 0 0] 83 (0, 0)) (ph_ BK182.out)) : gb182 ≠ gb192))
    have n14_ := Aside0.mk ((by rw [hg]; exact Nat.ne_of_gt (blk_lt (g := gb182) (o := .cells #[.bool false, .slice none 0 0] 83 (0, 0)) (ph_ BK182.out)) : gb192 ≠ gb182))
    clear HO1_0
    clear HO186
    clear BK180
    clear BK181
    clear BK182
    clear HB
    have HO1_0 := n0_
    have HO186 := n1_
    have BK180 := n2_
    have BK181 := n3_
    have BK182 := n4_
    have HB := n5_
    have BK192 := n6_
    have GW192 := n7_
    have GE192 := n8_
    have NB180_192 := n9_
    have NB192_180 := n10_
    have NB181_192 := n11_
    have NB192_181 := n12_
    have NB182_192 := n13_
    have NB192_182 := n14_
    clear n0_ n1_ n2_ n3_ n4_ n5_ n6_ n7_ n8_ n9_ n10_ n11_ n12_ n13_ n14_
    clear hb hbox hg
    obtain ⟨Ao11, co11, eo11⟩ := Kd.V_slice HO186.out
    (first | subst eo11 | (injection eo11 with f1_ f2_ f3_; have f4_ := f1_.symm; have f5_ := f3_.symm; clear f1_ f2_ f3_; subst f4_; subst f5_))
    refine hK.out _ _ ⟨(blk_cell BK180.out 0).trans rfl, (blk_cell BK180.out 1).trans rfl, (blk_cell BK181.out 0).trans rfl⟩ (fun hHeld => ?_)
    clear hK K
    refine norm_ (a' := ?_) ?_ ?_
    rotate_left
    ·show Act.put _ (some 5) _ = _
     simp only [Act.put, List.setIfInBounds_toArray, List.set_cons_zero, List.set_cons_succ, i64_w, i32_w]
     rfl
    refine one_ (i := 3) (N := some 11) m10_11 rfl rfl (one_of HT_.out (by kernel_rfl)) (by decide) (fun K hK => ?_)
    refine goes_ Tryz.func112 (by kernel_rfl) rfl #[.agg #[.bool a0_0, .slice A0_1 l0_1.length c0_1], .agg #[.bool t183, .slice Ao11 t184.length co11]] (by rfl) rfl rfl (by (try simp only [List.map_toArray, List.map_cons, List.map_nil]); first | done | rfl | (simp only [List.length_drop, List.length_take]; rfl)) ?_
    with_reducible refine (whole_Mul.calls k a0_0 _ _ l0_1 t183 _ _ t184 t187 t188 t191 _ ?side1 ?side2 ?side3 ?side4 A4.out).mono ?_
    (case side1 => repeat (first | exact (Kd.C_below HR0_1.out HB.out) | (with_reducible refine Kd.C_alloc ?_ _) | (with_reducible refine Kd.C_drewN ?_ _) | (with_reducible refine Kd.C_drew ?_)))
    (case side2 => exact HC0_1.out)
    (case side3 => repeat (first | exact (Kd.V_reads' HO186.out).2.2 | (with_reducible refine Kd.C_alloc ?_ _) | (with_reducible refine Kd.C_drewN ?_ _) | (with_reducible refine Kd.C_drew ?_)))
    (case side4 => exact (Kd.V_reads' HO186.out).2.1)
    rintro e w12 ⟨v189, rfl, ho0, hb⟩
    refine ⟨_, rfl, ?_⟩
    have n0_ := Aside0.mk (Kd.V_below (by (with_reducible repeat (first | apply Kd.V_alloc | apply Kd.V_drewN | apply Kd.V_drew)); exact HO1_0.out) hb)
    have n1_ := Aside0.mk (Kd.V_below (by (with_reducible repeat (first | apply Kd.V_alloc | apply Kd.V_drewN | apply Kd.V_drew)); exact HO186.out) hb)
    have n2_ := Aside0.mk (Kd.V_lower (Kd.V_mono (ok' := fun k_ => (P1_0_ k_ ∨ w.heap.size ≤ k_) ∧ k_ ≠ gb180 ∧ k_ ≠ gb181 ∧ k_ ≠ gb182 ∧ k_ ≠ gb192) ho0 (fun k_ hk_ => ⟨(.inr (Nat.le_trans (below_size (hb4_ HB.out GE180.out GE181.out GE182.out GE192.out)) hk_)), (Kd.freshB (g := gb180) (o := .cells #[.bool a0_0, .slice A0_1 l0_1.length c0_1] 83 (0, 0)) (ph_ BK180.out) k_ hk_), (Kd.freshB (g := gb181) (o := .cells #[.slice A1_0 l1_0.length c1_0] 81 (0, 0)) (ph_ BK181.out) k_ hk_), (Kd.freshB (g := gb182) (o := .cells #[.bool false, .slice none 0 0] 83 (0, 0)) (ph_ BK182.out) k_ hk_), (Kd.freshB (g := gb192) (o := .cells #[.bool false, .slice none 0 0] 83 (0, 0)) (ph_ BK192.out) k_ hk_)⟩)) (below_size (hb4_ HB.out GE180.out GE181.out GE182.out GE192.out)))
    have n3_ := Aside0.mk (blk_below (g := gb180) (o := .cells #[.bool a0_0, .slice A0_1 l0_1.length c0_1] 83 (0, 0)) (ph_ BK180.out) hb)
    have n4_ := Aside0.mk (blk_below (g := gb181) (o := .cells #[.slice A1_0 l1_0.length c1_0] 81 (0, 0)) (ph_ BK181.out) hb)
    have n5_ := Aside0.mk (blk_below (g := gb182) (o := .cells #[.bool false, .slice none 0 0] 83 (0, 0)) (ph_ BK182.out) hb)
    have n6_ := Aside0.mk (blk_below (g := gb192) (o := .cells #[.bool false, .slice none 0 0] 83 (0, 0)) (ph_ BK192.out) hb)
    have n7_ := Aside0.mk (below_step (hb4_ HB.out GE180.out GE181.out GE182.out GE192.out) hb)
    clear HO1_0
    clear HO186
    clear BK180
    clear BK181
    clear BK182
    clear BK192
    clear HB
    have HO1_0 := n0_
    have HO186 := n1_
    have HO190 := n2_
    have BK180 := n3_
    have BK181 := n4_
    have BK182 := n5_
    have BK192 := n6_
    have HB := n7_
    clear n0_ n1_ n2_ n3_ n4_ n5_ n6_ n7_
    (try clear hb)
    (try clear hb2)
    (try clear hk)
    (try clear hi)
    (try clear ho0)
    refine hK.out _ _ ⟨(blk_cell BK180.out 0).trans rfl, (blk_cell BK180.out 1).trans rfl, (blk_cell BK181.out 0).trans rfl⟩ (fun hHeld => ?_)
    clear hK K
    refine norm_ (a' := ?_) ?_ ?_
    rotate_left
    ·show Act.put _ (some 11) _ = _
     simp only [Act.put, List.setIfInBounds_toArray, List.set_cons_zero, List.set_cons_succ, i64_w, i32_w]
     rfl
    refine pure_ (i := 4) (N := some 7) (v := ?_) (a' := ?_) m10_12 rfl rfl (any_of HT_.out (by kernel_rfl)) (fun _ _ _ h => h) (Or.inl ⟨by rfl, ?_⟩) ?_ ?_
    rotate_left
    ·intro w'
     go_simp
     with_reducible rfl
    rotate_left
    ·simp only [Act.put, List.setIfInBounds_toArray, List.set_cons_zero, List.set_cons_succ, i64_w, i32_w]
     rfl
    refine pure_ (i := 5) (N := some 12) (v := ?_) (a' := ?_) m10_13 rfl rfl (any_of HT_.out (by kernel_rfl)) (fun _ _ _ h => h) (Or.inl ⟨by rfl, ?_⟩) ?_ ?_
    rotate_left
    ·intro w'
     go_simp
     with_reducible rfl
    rotate_left
    ·simp only [Act.put, List.setIfInBounds_toArray, List.set_cons_zero, List.set_cons_succ, i64_w, i32_w]
     rfl
    refine pure_ (i := 6) (N := some 13) (v := ?_) (a' := ?_) m10_3 rfl rfl (any_of HT_.out (by kernel_rfl)) (fun _ _ _ h => h) (Or.inl ⟨by rfl, ?_⟩) ?_ ?_
    rotate_left
    ·intro w'
     go_simp
     with_reducible rfl
    rotate_left
    ·simp only [Act.put, List.setIfInBounds_toArray, List.set_cons_zero, List.set_cons_succ, i64_w, i32_w]
     rfl
    exact norm_ (by simp only [putAll, Act.put, List.setIfInBounds_toArray, List.set_cons_zero, List.set_cons_succ]) (hCont (.slice Ao11 t184.length co11, v189, gb192) _ ⟨hHeld, (by (with_reducible repeat (first | apply Kd.V_alloc | apply Kd.V_drewN | apply Kd.V_drew)); exact Kd.V_mono HO186.out (fun _ hk => ⟨hk.1.1, ⟨hk.1.2.1, ⟨hk.1.2.2.1, ⟨hk.1.2.2.2, hk.2⟩⟩⟩⟩)), (by (with_reducible repeat (first | apply Kd.V_alloc | apply Kd.V_drewN | apply Kd.V_drew)); exact HO190.out), (by (with_reducible repeat (first | apply Kd.V_alloc | apply Kd.V_drewN | apply Kd.V_drew)); exact Kd.V_mono HO1_0.out (fun _ hk => ⟨hk.1.1.1.1, ⟨hk.1.1.1.2, ⟨hk.1.1.2, ⟨hk.1.2, hk.2⟩⟩⟩⟩)), (ph_ BK180.out), (ph_ BK181.out), (ph_ BK182.out), (ph_ BK192.out), GW192.out, GE192.out, NB180_192.out, NB192_180.out, NB181_192.out, NB192_181.out, NB182_192.out, NB192_182.out, (hb4_ HB.out GE180.out GE181.out GE182.out GE192.out)⟩)
  ·skip
   refine box_step ?hg (N := 5) ?hd (cs := #[.bool false, .slice none 0 0]) (t := 83) ?hr ?_; (case hd => rfl); (case hg => rfl); (case hr => first | (go_simp; done) | (go_simp; rfl))
   intro gb192 hg w9 hbox hb
   have n0_ := Aside0.mk (Kd.V_below (Kd.V_elderB (by (with_reducible repeat (first | apply Kd.V_alloc | apply Kd.V_drewN | apply Kd.V_drew)); exact HO1_0.out) gb192 (Nat.le_of_eq hg.symm)) hb)
   have n1_ := Aside0.mk (blk_below (g := gb180) (o := .cells #[.bool a0_0, .slice A0_1 l0_1.length c0_1] 83 (0, 0)) (ph_ BK180.out) hb)
   have n2_ := Aside0.mk (blk_below (g := gb181) (o := .cells #[.slice A1_0 l1_0.length c1_0] 81 (0, 0)) (ph_ BK181.out) hb)
   have n3_ := Aside0.mk (blk_below (g := gb182) (o := .cells #[.bool false, .slice none 0 0] 83 (0, 0)) (ph_ BK182.out) hb)
   have n4_ := Aside0.mk (below_step (hb3_ HB.out GE180.out GE181.out GE182.out) hb)
   have n5_ := Aside0.mk (hbox)
   have n6_ := Aside0.mk ((by rw [hg]; exact (below_size (hb3_ HB.out GE180.out GE181.out GE182.out)) : w.heap.size ≤ gb192))
   have n7_ := Aside0.mk ((by rw [hg]; exact (below_size (hb3_ HB.out GE180.out GE181.out GE182.out)) : w.heap.size ≤ gb192))
   have n8_ := Aside0.mk ((by rw [hg]; exact Nat.ne_of_lt (blk_lt (g := gb180) (o := .cells #[.bool a0_0, .slice A0_1 l0_1.length c0_1] 83 (0, 0)) (ph_ BK180.out)) : gb180 ≠ gb192))
   have n9_ := Aside0.mk ((by rw [hg]; exact Nat.ne_of_gt (blk_lt (g := gb180) (o := .cells #[.bool a0_0, .slice A0_1 l0_1.length c0_1] 83 (0, 0)) (ph_ BK180.out)) : gb192 ≠ gb180))
   have n10_ := Aside0.mk ((by rw [hg]; exact Nat.ne_of_lt (blk_lt (g := gb181) (o := .cells #[.slice A1_0 l1_0.length c1_0] 81 (0, 0)) (ph_ BK181.out)) : gb181 ≠ gb192))
   have n11_ := Aside0.mk ((by rw [hg]; exact Nat.ne_of_gt (blk_lt (g := gb181) (o := .cells #[.slice A1_0 l1_0.length c1_0] 81 (0, 0)) (ph_ BK181.out)) : gb192 ≠ gb181))
   have n12_ := Aside0.mk ((by rw [hg]; exact Nat.ne_of_lt (blk_lt (g := gb182) (o := .cells #[.bool false, .slice none 0 0] 83 (0, 0)) (ph_ BK182.out)) : gb182 ≠ gb192))
   have n13_ := Aside0.mk ((by rw [hg]; exact Nat.ne_of_gt (blk_lt (g := gb182) (o := .cells #[.bool false, .slice none 0 0] 83 (0, 0)) (ph_ BK182.out)) : gb192 ≠ gb182))
   clear HO1_0
   clear BK180
   clear BK181
   clear BK182
   clear HB
   have HO1_0 := n0_
   have BK180 := n1_
   have BK181 := n2_
   have BK182 := n3_
   have HB := n4_
   have BK192 := n5_
   have GW192 := n6_
   have GE192 := n7_
   have NB180_192 := n8_
   have NB192_180 := n9_
   have NB181_192 := n10_
   have NB192_181 := n11_
   have NB182_192 := n12_
   have NB192_182 := n13_
   clear n0_ n1_ n2_ n3_ n4_ n5_ n6_ n7_ n8_ n9_ n10_ n11_ n12_ n13_
   clear hb hbox hg
   refine hK.out _ _ ⟨(blk_cell BK180.out 0).trans rfl, (blk_cell BK180.out 1).trans rfl, (blk_cell BK181.out 0).trans rfl⟩ (fun hHeld => ?_)
   clear hK K
   refine norm_ (a' := ?_) ?_ ?_
   rotate_left
   ·show Act.put _ (some 5) _ = _
    simp only [Act.put, List.setIfInBounds_toArray, List.set_cons_zero, List.set_cons_succ, i64_w, i32_w]
    rfl
   refine one_ (i := 2) (N := some 10) m10_7 rfl rfl (one_of HT_.out (by kernel_rfl)) (by decide) (fun K hK => ?_)
   refine goes_ Tryz.func108 (by kernel_rfl) rfl #[.bool false, .agg #[.slice A1_0 l1_0.length c1_0]] (by rfl) rfl rfl (by (try simp only [List.map_toArray, List.map_cons, List.map_nil]); first | done | rfl | (simp only [List.length_drop, List.length_take]; rfl)) ?_
   with_reducible refine (whole_New.calls false (fun k_ => (((((P1_0_ k_ ∨ w.heap.size ≤ k_) ∧ k_ ≠ gb180) ∧ k_ ≠ gb181) ∧ k_ ≠ gb182) ∧ k_ ≠ gb192)) _ _ l1_0 t183 t184 _ ?side1 A3.out).mono ?_
   (case side1 => exact HO1_0.out)
   rintro e w10 ⟨v185, rfl, ho0, hb⟩
   refine ⟨_, rfl, ?_⟩
   have n0_ := Aside0.mk (Kd.V_below (by (with_reducible repeat (first | apply Kd.V_alloc | apply Kd.V_drewN | apply Kd.V_drew)); exact HO1_0.out) hb)
   have n1_ := Aside0.mk (Kd.V_lower (Kd.V_mono (ok' := fun k_ => (P1_0_ k_ ∨ w.heap.size ≤ k_) ∧ k_ ≠ gb180 ∧ k_ ≠ gb181 ∧ k_ ≠ gb182 ∧ k_ ≠ gb192) ho0 (fun k_ hk_ => ⟨Or.elim hk_ (fun hs_ => hs_.1.1.1.1) (fun hn_ => (.inr (Nat.le_trans (below_size (hb4_ HB.out GE180.out GE181.out GE182.out GE192.out)) hn_))), Or.elim hk_ (fun hs_ => hs_.1.1.1.2) (fun hn_ => (Kd.freshB (g := gb180) (o := .cells #[.bool a0_0, .slice A0_1 l0_1.length c0_1] 83 (0, 0)) (ph_ BK180.out) k_ hn_)), Or.elim hk_ (fun hs_ => hs_.1.1.2) (fun hn_ => (Kd.freshB (g := gb181) (o := .cells #[.slice A1_0 l1_0.length c1_0] 81 (0, 0)) (ph_ BK181.out) k_ hn_)), Or.elim hk_ (fun hs_ => hs_.1.2) (fun hn_ => (Kd.freshB (g := gb182) (o := .cells #[.bool false, .slice none 0 0] 83 (0, 0)) (ph_ BK182.out) k_ hn_)), Or.elim hk_ (fun hs_ => hs_.2) (fun hn_ => (Kd.freshB (g := gb192) (o := .cells #[.bool false, .slice none 0 0] 83 (0, 0)) (ph_ BK192.out) k_ hn_))⟩)) (below_size (hb4_ HB.out GE180.out GE181.out GE182.out GE192.out)))
   have n2_ := Aside0.mk (blk_below (g := gb180) (o := .cells #[.bool a0_0, .slice A0_1 l0_1.length c0_1] 83 (0, 0)) (ph_ BK180.out) hb)
   have n3_ := Aside0.mk (blk_below (g := gb181) (o := .cells #[.slice A1_0 l1_0.length c1_0] 81 (0, 0)) (ph_ BK181.out) hb)
   have n4_ := Aside0.mk (blk_below (g := gb182) (o := .cells #[.bool false, .slice none 0 0] 83 (0, 0)) (ph_ BK182.out) hb)
   have n5_ := Aside0.mk (blk_below (g := gb192) (o := .cells #[.bool false, .slice none 0 0] 83 (0, 0)) (ph_ BK192.out) hb)
   have n6_ := Aside0.mk (below_step (hb4_ HB.out GE180.out GE181.out GE182.out GE192.out) hb)
   clear HO1_0
   clear BK180
   clear BK181
   clear BK182
   clear BK192
   clear HB
   have HO1_0 := n0_
   have HO186 := n1_
   have BK180 := n2_
   have BK181 := n3_
   have BK182 := n4_
   have BK192 := n5_
   have HB := n6_
   clear n0_ n1_ n2_ n3_ n4_ n5_ n6_
   (try clear hb)
   (try clear hb2)
   (try clear hk)
   (try clear hi)
   (try clear ho0)
   obtain ⟨Ao11, co11, eo11⟩ := Kd.V_slice HO186.out
   (first | subst eo11 | (injection eo11 with f1_ f2_ f3_; have f4_ := f1_.symm; have f5_ := f3_.symm; clear f1_ f2_ f3_; subst f4_; subst f5_))
   refine hK.out _ _ ⟨(blk_cell BK180.out 0).trans rfl, (blk_cell BK180.out 1).trans rfl, (blk_cell BK181.out 0).trans rfl⟩ (fun hHeld => ?_)
   clear hK K
   refine norm_ (a' := ?_) ?_ ?_
   rotate_left
   ·show Act.put _ (some 10) _ = _
    simp only [Act.put, List.setIfInBounds_toArray, List.set_cons_zero, List.set_cons_succ, i64_w, i32_w]
    rfl
   refine one_ (i := 3) (N := some 11) m10_11 rfl rfl (one_of HT_.out (by kernel_rfl)) (by decide) (fun K hK => ?_)
   refine goes_ Tryz.func112 (by kernel_rfl) rfl #[.agg #[.bool a0_0, .slice A0_1 l0_1.length c0_1], .agg #[.bool t183, .slice Ao11 t184.length co11]] (by rfl) rfl rfl (by (try simp only [List.map_toArray, List.map_cons, List.map_nil]); first | done | rfl | (simp only [List.length_drop, List.length_take]; rfl)) ?_
   with_reducible refine (whole_Mul.calls k a0_0 _ _ l0_1 t183 _ _ t184 t187 t188 t191 _ ?side1 ?side2 ?side3 ?side4 A4.out).mono ?_
   (case side1 => repeat (first | exact (Kd.C_below HR0_1.out HB.out) | (with_reducible refine Kd.C_alloc ?_ _) | (with_reducible refine Kd.C_drewN ?_ _) | (with_reducible refine Kd.C_drew ?_)))
   (case side2 => exact HC0_1.out)
   (case side3 => repeat (first | exact (Kd.V_reads' HO186.out).2.2 | (with_reducible refine Kd.C_alloc ?_ _) | (with_reducible refine Kd.C_drewN ?_ _) | (with_reducible refine Kd.C_drew ?_)))
   (case side4 => exact (Kd.V_reads' HO186.out).2.1)
   rintro e w12 ⟨v189, rfl, ho0, hb⟩
   refine ⟨_, rfl, ?_⟩
   have n0_ := Aside0.mk (Kd.V_below (by (with_reducible repeat (first | apply Kd.V_alloc | apply Kd.V_drewN | apply Kd.V_drew)); exact HO1_0.out) hb)
   have n1_ := Aside0.mk (Kd.V_below (by (with_reducible repeat (first | apply Kd.V_alloc | apply Kd.V_drewN | apply Kd.V_drew)); exact HO186.out) hb)
   have n2_ := Aside0.mk (Kd.V_lower (Kd.V_mono (ok' := fun k_ => (P1_0_ k_ ∨ w.heap.size ≤ k_) ∧ k_ ≠ gb180 ∧ k_ ≠ gb181 ∧ k_ ≠ gb182 ∧ k_ ≠ gb192) ho0 (fun k_ hk_ => ⟨(.inr (Nat.le_trans (below_size (hb4_ HB.out GE180.out GE181.out GE182.out GE192.out)) hk_)), (Kd.freshB (g := gb180) (o := .cells #[.bool a0_0, .slice A0_1 l0_1.length c0_1] 83 (0, 0)) (ph_ BK180.out) k_ hk_), (Kd.freshB (g := gb181) (o := .cells #[.slice A1_0 l1_0.length c1_0] 81 (0, 0)) (ph_ BK181.out) k_ hk_), (Kd.freshB (g := gb182) (o := .cells #[.bool false, .slice none 0 0] 83 (0, 0)) (ph_ BK182.out) k_ hk_), (Kd.freshB (g := gb192) (o := .cells #[.bool false, .slice none 0 0] 83 (0, 0)) (ph_ BK192.out) k_ hk_)⟩)) (below_size (hb4_ HB.out GE180.out GE181.out GE182.out GE192.out)))
   have n3_ := Aside0.mk (blk_below (g := gb180) (o := .cells #[.bool a0_0, .slice A0_1 l0_1.length c0_1] 83 (0, 0)) (ph_ BK180.out) hb)
   have n4_ := Aside0.mk (blk_below (g := gb181) (o := .cells #[.slice A1_0 l1_0.length c1_0] 81 (0, 0)) (ph_ BK181.out) hb)
   have n5_ := Aside0.mk (blk_below (g := gb182) (o := .cells #[.bool false, .slice none 0 0] 83 (0, 0)) (ph_ BK182.out) hb)
   have n6_ := Aside0.mk (blk_below (g := gb192) (o := .cells #[.bool false, .slice none 0 0] 83 (0, 0)) (ph_ BK192.out) hb)
   have n7_ := Aside0.mk (below_step (hb4_ HB.out GE180.out GE181.out GE182.out GE192.out) hb)
   clear HO1_0
   clear HO186
   clear BK180
   clear BK181
   clear BK182
   clear BK192
   clear HB
   have HO1_0 := n0_
   have HO186 := n1_
   have HO190 := n2_
   have BK180 := n3_
   have BK181 := n4_
   have BK182 := n5_
   have BK192 := n6_
   have HB := n7_
   clear n0_ n1_ n2_ n3_ n4_ n5_ n6_ n7_
   (try clear hb)
   (try clear hb2)
   (try clear hk)
   (try clear hi)
   (try clear ho0)
   refine hK.out _ _ ⟨(blk_cell BK180.out 0).trans rfl, (blk_cell BK180.out 1).trans rfl, (blk_cell BK181.out 0).trans rfl⟩ (fun hHeld => ?_)
   clear hK K
   refine norm_ (a' := ?_) ?_ ?_
   rotate_left
   ·show Act.put _ (some 11) _ = _
    simp only [Act.put, List.setIfInBounds_toArray, List.set_cons_zero, List.set_cons_succ, i64_w, i32_w]
    rfl
   refine pure_ (i := 4) (N := some 7) (v := ?_) (a' := ?_) m10_12 rfl rfl (any_of HT_.out (by kernel_rfl)) (fun _ _ _ h => h) (Or.inl ⟨by rfl, ?_⟩) ?_ ?_
   rotate_left
   ·intro w'
    go_simp
    with_reducible rfl
   rotate_left
   ·simp only [Act.put, List.setIfInBounds_toArray, List.set_cons_zero, List.set_cons_succ, i64_w, i32_w]
    rfl
   refine pure_ (i := 5) (N := some 12) (v := ?_) (a' := ?_) m10_13 rfl rfl (any_of HT_.out (by kernel_rfl)) (fun _ _ _ h => h) (Or.inl ⟨by rfl, ?_⟩) ?_ ?_
   rotate_left
   ·intro w'
    go_simp
    with_reducible rfl
   rotate_left
   ·simp only [Act.put, List.setIfInBounds_toArray, List.set_cons_zero, List.set_cons_succ, i64_w, i32_w]
    rfl
   refine pure_ (i := 6) (N := some 13) (v := ?_) (a' := ?_) m10_3 rfl rfl (any_of HT_.out (by kernel_rfl)) (fun _ _ _ h => h) (Or.inl ⟨by rfl, ?_⟩) ?_ ?_
   rotate_left
   ·intro w'
    go_simp
    with_reducible rfl
   rotate_left
   ·simp only [Act.put, List.setIfInBounds_toArray, List.set_cons_zero, List.set_cons_succ, i64_w, i32_w]
    rfl
   exact norm_ (by simp only [putAll, Act.put, List.setIfInBounds_toArray, List.set_cons_zero, List.set_cons_succ]) (hCont (.slice Ao11 t184.length co11, v189, gb192) _ ⟨hHeld, (by (with_reducible repeat (first | apply Kd.V_alloc | apply Kd.V_drewN | apply Kd.V_drew)); exact HO186.out), (by (with_reducible repeat (first | apply Kd.V_alloc | apply Kd.V_drewN | apply Kd.V_drew)); exact HO190.out), (by (with_reducible repeat (first | apply Kd.V_alloc | apply Kd.V_drewN | apply Kd.V_drew)); exact Kd.V_mono HO1_0.out (fun _ hk => ⟨hk.1.1.1.1, ⟨hk.1.1.1.2, ⟨hk.1.1.2, ⟨hk.1.2, hk.2⟩⟩⟩⟩)), (ph_ BK180.out), (ph_ BK181.out), (ph_ BK182.out), (ph_ BK192.out), GW192.out, GE192.out, NB180_192.out, NB192_180.out, NB181_192.out, NB192_181.out, NB182_192.out, NB192_182.out, (hb4_ HB.out GE180.out GE181.out GE182.out GE192.out)⟩)
 rintro ⟨v185, v189, gb192⟩ w13 ⟨hS_, h0_, h1_, h2_, h3_, h4_, h5_, h6_, h7_, h8_, h9_, h10_, h11_, h12_, h13_, h14_, h15_⟩
 have n0_ : Aside0 (Kd.V (Kd.int .u64) 92 w13 w.heap.size (fun k_ => (P1_0_ k_ ∨ w.heap.size ≤ k_) ∧ k_ ≠ gb180 ∧ k_ ≠ gb181 ∧ k_ ≠ gb182 ∧ k_ ≠ gb192) v185 t184) := ⟨h0_⟩
 have n1_ : Aside0 (Kd.V (Kd.int .u64) 92 w13 w.heap.size (fun k_ => (P1_0_ k_ ∨ w.heap.size ≤ k_) ∧ k_ ≠ gb180 ∧ k_ ≠ gb181 ∧ k_ ≠ gb182 ∧ k_ ≠ gb192) v189 t188) := ⟨h1_⟩
 have n2_ : Aside0 (Kd.V (Kd.int .u64) 92 w13 w.heap.size (fun k_ => (P1_0_ k_ ∨ w.heap.size ≤ k_) ∧ k_ ≠ gb180 ∧ k_ ≠ gb181 ∧ k_ ≠ gb182 ∧ k_ ≠ gb192) (.slice A1_0 l1_0.length c1_0) l1_0) := ⟨h2_⟩
 have n3_ : Aside0 (w13.heap[gb180]? = some (.cells #[.bool a0_0, .slice A0_1 l0_1.length c0_1] 83 (0, 0))) := ⟨h3_⟩
 have n4_ : Aside0 (w13.heap[gb181]? = some (.cells #[.slice A1_0 l1_0.length c1_0] 81 (0, 0))) := ⟨h4_⟩
 have n5_ : Aside0 (w13.heap[gb182]? = some (.cells #[.bool false, .slice none 0 0] 83 (0, 0))) := ⟨h5_⟩
 have n6_ : Aside0 (w13.heap[gb192]? = some (.cells #[.bool false, .slice none 0 0] 83 (0, 0))) := ⟨h6_⟩
 have n7_ : Aside0 (w.heap.size ≤ gb192) := ⟨h7_⟩
 have n8_ : Aside0 (w.heap.size ≤ gb192) := ⟨h8_⟩
 have n9_ : Aside0 (gb180 ≠ gb192) := ⟨h9_⟩
 have n10_ : Aside0 (gb192 ≠ gb180) := ⟨h10_⟩
 have n11_ : Aside0 (gb181 ≠ gb192) := ⟨h11_⟩
 have n12_ : Aside0 (gb192 ≠ gb181) := ⟨h12_⟩
 have n13_ : Aside0 (gb182 ≠ gb192) := ⟨h13_⟩
 have n14_ : Aside0 (gb192 ≠ gb182) := ⟨h14_⟩
 have n15_ : Aside0 (Below w.heap.size w w13) := ⟨h15_⟩
 clear HO1_0
 clear BK180
 clear BK181
 clear BK182
 clear HB
 clear h0_ h1_ h2_ h3_ h4_ h5_ h6_ h7_ h8_ h9_ h10_ h11_ h12_ h13_ h14_ h15_
 have HO186 := n0_
 have HO190 := n1_
 have HO1_0 := n2_
 have BK180 := n3_
 have BK181 := n4_
 have BK182 := n5_
 have BK192 := n6_
 have GW192 := n7_
 have GE192 := n8_
 have NB180_192 := n9_
 have NB192_180 := n10_
 have NB181_192 := n11_
 have NB192_181 := n12_
 have NB182_192 := n13_
 have NB192_182 := n14_
 have HB := n15_
 clear n0_ n1_ n2_ n3_ n4_ n5_ n6_ n7_ n8_ n9_ n10_ n11_ n12_ n13_ n14_ n15_
 have hHeld : w13.cell? ⟨gb180, 0, none⟩ = some (.bool a0_0) ∧ w13.cell? ⟨gb180, 1, none⟩ = some (.slice A0_1 l0_1.length c0_1) ∧ w13.cell? ⟨gb181, 0, none⟩ = some (.slice A1_0 l1_0.length c1_0) := hS_
 obtain ⟨Ao15, co15, eo15⟩ := Kd.V_slice HO190.out
 (first | subst eo15 | (injection eo15 with f1_ f2_ f3_; have f4_ := f1_.symm; have f5_ := f3_.symm; clear f1_ f2_ f3_; subst f4_; subst f5_))
 refine norm_ (a' := ?_) ?_ ?_
 rotate_left
 ·simp only [putAll, Act.put, List.setIfInBounds_toArray, List.set_cons_zero, List.set_cons_succ]
  rfl
 refine one_ (i := 8) (N := none) #[true, true, true, true, true, true, true, true, true, false] rfl rfl (one_of HT_.out (by kernel_rfl)) (by decide) (fun K hK => ?_)
 have hs14 : w13.cell? ⟨gb192, 0, none⟩ = some (.bool false) := (blk_cell BK192.out 0).trans rfl
 have hfs14 := blk_frozen BK192.out 0
 have hns14_0 := NB180_192.out
 have hns14_1 := NB181_192.out
 have hns14_2 := NB182_192.out
 have hms14_0 := NB192_180.out
 have hms14_1 := NB192_181.out
 have hms14_2 := NB192_182.out
 have hs16 : w13.cell? ⟨gb192, 1, none⟩ = some (.slice none 0 0) := (blk_cell BK192.out 1).trans rfl
 have hfs16 := blk_frozen BK192.out 1
 have hns16_0 := NB180_192.out
 have hns16_1 := NB181_192.out
 have hns16_2 := NB182_192.out
 have hms16_0 := NB192_180.out
 have hms16_1 := NB192_181.out
 have hms16_2 := NB192_182.out
 refine skip_ (w1 := ?_) (by rfl) rfl ?_ ?_
 rotate_left
 ·go_simp
  rfl
 refine hK.out _ _ ⟨((cell_far (p := ⟨gb192, _, none⟩) NB180_192.out _).trans (((cell_far (p := ⟨gb192, _, none⟩) NB180_192.out _).trans (hHeld.1)))), ((cell_far (p := ⟨gb192, _, none⟩) NB180_192.out _).trans (((cell_far (p := ⟨gb192, _, none⟩) NB180_192.out _).trans (hHeld.2.1)))), ((cell_far (p := ⟨gb192, _, none⟩) NB181_192.out _).trans (((cell_far (p := ⟨gb192, _, none⟩) NB181_192.out _).trans (hHeld.2.2))))⟩ (fun hHeld => ?_)
 clear hK K
 refine pure_ (i := 9) (N := some 6) (v := ?_) (a' := ?_) #[true, true, true, true, true, true, true, true, true, true] rfl rfl (any_of HT_.out (by kernel_rfl)) (fun _ _ _ h => h) (Or.inl ⟨by rfl, ?_⟩) ?_ ?_
 rotate_left
 ·intro w'
  go_simp
  with_reducible rfl
 rotate_left
 ·simp only [Act.put, List.setIfInBounds_toArray, List.set_cons_zero, List.set_cons_succ, i64_w, i32_w]
  rfl
 refine done_ (done_of HT_.out (by kernel_rfl)) ?_
 have hnb17 := NB192_180.out
 have hnc17 := NB180_192.out
 have hnb18 := NB192_181.out
 have hnc18 := NB181_192.out
 have hnb19 := NB192_182.out
 have hnc19 := NB182_192.out
 obtain ⟨hcz20_0, hcz20_1, hfz20_0, hfz20_1⟩ := bx2 BK192.out
 have hnb21 := NB182_180.out
 have hnc21 := NB180_182.out
 have hnb22 := NB182_181.out
 have hnc22 := NB181_182.out
 obtain ⟨hcz23_0, hcz23_1, hfz23_0, hfz23_1⟩ := bx2 BK182.out
 try go_wp2
 refine bodyPost_ret (results_cell_row rfl _ _ gb182 83 #[.bool t187, .slice Ao15 t188.length co15] (0, 0) _ rfl (by (with_reducible repeat (first | refine blk_drewN ?_ _ | refine blk_drew ?_ | refine blk_alloc ?_ _)); refine blk_put (cs := #[.bool t187, .slice none 0 0]) ?_ 1 _ rfl; (with_reducible repeat (first | refine blk_drewN ?_ _ | refine blk_drew ?_ | refine blk_alloc ?_ _)); refine blk_put (cs := #[.bool false, .slice none 0 0]) ?_ 0 _ rfl; (repeat ((with_reducible repeat (first | refine blk_drewN ?_ _ | refine blk_drew ?_ | refine blk_alloc ?_ _)); refine blk_far ?_ NB182_192.out _)); (with_reducible repeat (first | refine blk_drewN ?_ _ | refine blk_drew ?_ | refine blk_alloc ?_ _)); exact BK182.out) Tryz.underlying83 rfl (by kernel_rfl)) rfl ?_
 exact ⟨_, rf_, by (with_reducible repeat (first | apply Kd.V_alloc | apply Kd.V_drewN | apply Kd.V_drew)); exact Kd.V_mono (Kd.V_far (p := ⟨gb182, 1, none⟩) (Kd.V_far (p := ⟨gb182, 0, none⟩) (Kd.V_far (p := ⟨gb192, 1, none⟩) (Kd.V_far (p := ⟨gb192, 0, none⟩) (Kd.V_mono (Kd.V_mono HO190.out (fun k_ hk => (⟨hk, hk.2.2.2.2⟩ : _ ∧ k_ ≠ gb192))) (fun k_ hk => (⟨hk, hk.1.2.2.2.1⟩ : _ ∧ k_ ≠ gb182))) (fun _ hk => hk.1.2) (.bool t187)) (fun _ hk => hk.1.2) (.slice Ao15 t188.length co15)) (fun _ hk => hk.2) (.bool t187)) (fun _ hk => hk.2) (.slice Ao15 t188.length co15)) (fun _ hk => hk.1.1.1), (hb4_ HB.out GE180.out GE181.out GE182.out GE192.out)⟩
end Go.Proofs.YtlboolhjfffppaaGreatDoor.PBLI
