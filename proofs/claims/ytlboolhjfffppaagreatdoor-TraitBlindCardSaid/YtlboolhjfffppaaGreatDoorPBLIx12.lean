-- Written by this session's program (wip/tools/pr.py over the kit's print).
import Derived.Test.YtlboolhjfffppaaGreatDoorPh
import Derived.Test.YtlboolhjfffppaaGreatDoorPBLIx0
import Derived.Test.YtlboolhjfffppaaGreatDoorPBLIx3
import Derived.Test.YtlboolhjfffppaaGreatDoorPBLIx5
import Derived.Test.YtlboolhjfffppaaGreatDoorPBLIx6
import Derived.Test.YtlboolhjfffppaaGreatDoorPBLIx7
import Derived.Test.YtlboolhjfffppaaGreatDoorPBLIx8
import Derived.Test.YtlboolhjfffppaaGreatDoorPBLIx9
import Derived.Test.YtlboolhjfffppaaGreatDoorPBLIx10
import Derived.Test.YtlboolhjfffppaaGreatDoorPBLIx11
namespace Go.Proofs.YtlboolhjfffppaaGreatDoor.PBLI
open Go.RowKit Go.Proofs.YtlboolhjfffppaaGreatDoorW.PrintWords Go.Proofs.YtlboolhjfffppaaGreatDoorW.PrintLast Go.Proofs.YtlboolhjfffppaaGreatDoorW.PrintMore
attribute [local go_sem] max2_int min2_int max_two min_two max_three min_three max_four min_four
set_option linter.unusedVariables false
set_option linter.unusedSimpArgs false
theorem div_lt_u (x y : Nat) (hx : x < 18446744073709551616) : x / y < 18446744073709551616 := Nat.lt_of_le_of_lt (Nat.div_le_self x y) hx
theorem wrapU (x : Nat) (hx : x < 18446744073709551616) : IntKind.u64.wrap (x : Int) = (x : Int) := by rw [IntKind.wrap_u64]; omega
set_option maxHeartbeats 2000000 in
set_option maxRecDepth 100000 in
theorem div64_calls (x y : Nat) (hx : x < 18446744073709551616) (hy0 : 0 < y) (w : World) :
  Calls Tryz.prog 176 #[.int .u64 0, .int .u64 (x : Int), .int .u64 (y : Int)] w fun e w' => e = .returned (.tuple #[.int .u64 ((x / y : Nat) : Int), .int .u64 ((x % y : Nat) : Int)]) ∧ Below w.heap.size w w' := by
 have h1 : ((y : Int) == 0) = false := beq_eq_false_iff_ne.2 (by omega)
 have h2 : ¬ (y : Int) ≤ 0 := by omega
 have h3 : ¬ (y : Int) = 0 := by omega
 have h4 : IntKind.u64.wrap ((x : Int) / (y : Int)) = ((x / y : Nat) : Int) := by rw [← Int.natCast_ediv]; exact wrapU _ (div_lt_u x y hx)
 have h5 : (x : Int) % (y : Int) = ((x % y : Nat) : Int) := (Int.natCast_emod x y).symm
 go_enter Tryz.func176, Tryz.ntmps176
 go_wp2
 go_region
 go_wp2
 go_ret2
 exact ⟨rfl, below_drew (Below.refl _ _)⟩
set_option maxHeartbeats 2000000 in
set_option maxRecDepth 100000 in
theorem ldiv_calls (x y : Nat) (hx : x < 18446744073709551616) (hy0 : 0 < y) (w : World) :
  Calls Tryz.prog 167 #[.int .u64 0, .int .u64 (x : Int), .int .u64 (y : Int)] w fun e w' => e = .returned (.tuple #[.int .u64 ((x / y : Nat) : Int), .int .u64 ((x % y : Nat) : Int), .int .i64 0]) ∧ Below w.heap.size w w' := by
 have h1 : ((y : Int) == 0) = false := beq_eq_false_iff_ne.2 (by omega)
 have h2 : ¬ (y : Int) ≤ 0 := by omega
 have hK := fun W => div64_calls x y hx hy0 W
 go_enter Tryz.func167, Tryz.ntmps167
 go_wp2_with (go_at_call 176; go_must (refine (hK _).mono ?_; rintro e w2 ⟨rfl, hb⟩))
 go_ret3
 exact ⟨rfl, hb⟩
theorem lm_get (n : Nat) (h0 : n ≠ 0) (hn : n < 18446744073709551616) {w : World} {A : Option Addr} (h : Kd.C (Kd.int .u64) w A (lm n).length (lm n)) : ∃ ad, A = some ad ∧ w.cell? ad = some (.int .u64 (n : Int)) ∧ w.cell? (ad.add 0) = some (.int .u64 (n : Int)) := by
 rw [lm_one n h0 hn] at h
 obtain ⟨ad, e, hx⟩ := Kd.at_int h 0 (Int.le_refl _) (by simp)
 refine ⟨ad, e, ?_, hx⟩
 have : (ad.add (0 : Int).toNat) = ad := by cases ad; simp [Addr.add]
 rw [this] at hx
 exact hx
theorem two_get (W : World) (g : Nat) (ok : Nat → Prop) (cap : Nat) (x : Int) (cur : Array Value) (hg : W.heap[g]? = some (.cells cur 92 (0, 0))) (hc : 1 ≤ cap) (hm : cap ≤ maxLen) (hs : cur.size = cap) (hx : cur[0]? = some (.int .u64 x)) (hok : ok g) :
  Kd.F (Kd.int .u64) W ok (some ⟨g, 0, none⟩) [x].length [x] := by
 have hown : W.ownsRow 0 92 1 (.slice (some ⟨g, 0, none⟩) 1 cap) 1 (encs (Value.int .u64) [x]) := by
  refine ⟨rfl, .inr ⟨g, cap, cur, rfl, Nat.zero_le _, hg, hc, hm, by omega, ?_⟩⟩
  show cur.toList.take 1 = [.int .u64 x]
  obtain ⟨l⟩ := cur
  cases l with
  | nil => simp at hx
  | cons a l => simp at hx; simp [hx]
 have hR : Kd.R (Kd.int .u64) 92 W 0 ok (.slice (some ⟨g, 0, none⟩) [x].length cap) [x] := Kd.R_of_own hown (fun k hk => by have e : g = k := (by simpa [Value.ownBlock] using hk); exact e ▸ hok)
 exact (Kd.V_at (base := 0) (Kd.R_V hR)).2.2
theorem lm_le1 (x : Nat) (hx : x < 18446744073709551616) : (lm x).length ≤ 1 := by
 unfold lm
 by_cases h0 : x = 0
 ·rw [if_pos h0]; exact Nat.zero_le _
 ·rw [if_neg h0, if_pos hx]; exact Nat.le_refl _
theorem up_one (x : Nat) (hx : x < 18446744073709551616) : upN [(x : Int)] [(x : Int)].length = (lm x).length ∧ [(x : Int)].take (lm x).length = lm x := by
 by_cases h0 : x = 0
 ·subst h0; exact ⟨rfl, rfl⟩
 ·rw [lm_one x h0 hx]
  refine ⟨?_, rfl⟩
  show upN [(x : Int)] 1 = 1
  rw [upN, if_neg (show ¬ rd [(x : Int)] ((0 : Nat) : Int) = 0 from by show ¬ (x : Int) = 0; omega)]
set_option maxHeartbeats 4000000 in
set_option maxRecDepth 100000 in
theorem over_calls (A : Option Addr) (c n y : Nat) (w : World) (hC : Kd.C (Kd.int .u64) w A (lm n).length (lm n)) (hc : (lm n).length ≤ c) (hn0 : n ≠ 0) (hn : n < 18446744073709551616) (hy0 : 0 < y) :
  Calls Tryz.prog 146 #[.slice A (lm n).length c, .int .u64 (y : Int)] w fun e w' => ∃ v, e = .returned (.tuple #[v, .int .u64 ((n % y : Nat) : Int), .int .i64 0]) ∧ IsN w' (fun k => w.heap.size ≤ k) v (n / y) ∧ Below w.heap.size w w' := by
 have hK := cut_calls A c (lm n) w hC hc
 rw [lm_up n (by omega)] at hK
 obtain ⟨ad, rfl, hx, hx0⟩ := lm_get n hn0 hn hC
 have hl : (lm n).length = 1 := by rw [lm_one n hn0 hn]; rfl
 rw [hl] at hK hc ⊢
 have hD := fun W => ldiv_calls n y hn hy0 W
 have h1 : ((y : Int) == 0) = false := beq_eq_false_iff_ne.2 (by omega)
 go_enter Tryz.func146, Tryz.ntmps146
 go_wp2_with (first
  | (go_at_call 155; go_must (refine hK.mono ?_; rintro e w1 ⟨rfl, hb⟩))
  | ((with_reducible refine gate_dst (N := 17) rfl ?_); refine Kd.R_make (Kd.int .u64) w1.heap.size 92 rfl (N := 17) rfl 79 _ _ rfl 1 rfl rfl Tryz.underlying79 (.int .u64 0) 8 (by kernel_rfl) rfl (by decide) (by omega) 0 (ok := fun _ => True) (okp := fun _ => True) rfl (fun _ hk => hk) trivial (by decide) (by decide) (w0 := w1) (Below.refl _ _) (Nat.le_refl _) ?_; intro v2 w2 ho hb2 hg2 hn2; obtain ⟨g, cap, cur, rfl, _, hg3, hg4, hcap, hmx, hcs, htk⟩ := made_row ho hn2; have hbw := hb.trans (hb2.mono hb.size); have hgw : w.heap.size ≤ g := Nat.le_trans hb.size hg3; clear ho hg2 hn2))
 have hcap1 : 1 ≤ cap := hcap
 have htk1 : cur[0]? = some (.int .u64 0) := by
  have : cur.toList.take 1 = [.int .u64 0] := htk
  obtain ⟨l⟩ := cur
  cases l with
  | nil => simp at this
  | cons a l => simp at this; simp [this]
 have hFz := two_get w2 g (fun k => w.heap.size ≤ k) cap 0 cur hg4 hcap1 hmx hcs htk1 hgw
 clear hcap htk
 go_loopw [8, 20] (fun s8 s20 wr => ((s20 = .int .i64 0 ∧ s8 = .int .u64 0 ∧ wr.heap[g]? = some (.cells cur 92 (0, 0))) ∨ (s20 = .int .i64 1 ∧ s8 = .int .u64 ((n % y : Nat) : Int) ∧ wr.heap[g]? = some (.cells (cur.setIfInBounds 0 (.int .u64 ((n / y : Nat) : Int))) 92 (0, 0)))) ∧ Below w.heap.size w wr)
  (fun _ s20 _ => (1 - intOf s20).toNat)
 case atStart => exact ⟨Or.inl ⟨rfl, rfl, hg4⟩, hbw⟩
 case round =>
  obtain ⟨⟨rfl, rfl, hgr⟩ | ⟨rfl, rfl, hgr⟩, hbr⟩ := hrel
  ·have hxr := (hbr.cell (World.block_lt_of_cell? w _ hx)).trans hx
   have hxr0 := (hbr.cell (World.block_lt_of_cell? w _ hx0)).trans hx0
   have hcg : wr.cell? ⟨g, 0, none⟩ = some (.int .u64 0) := (blk_cell hgr 0).trans htk1
   have hfg : wr.frozen? ⟨g, 0, none⟩ = false := blk_frozen hgr 0
   go_wp2_with (go_at_call 167; go_must (refine (hD _).mono ?_; rintro e w3 ⟨rfl, hb3⟩; have hgr3 := (hb3.block _ (lt_blk hgr)).trans hgr; have hcg3 : w3.cell? ⟨g, 0, none⟩ = some (.int .u64 0) := (blk_cell hgr3 0).trans htk1; have hfg3 : w3.frozen? ⟨g, 0, none⟩ = false := blk_frozen hgr3 0))
   go_roundw
   case rel => exact ⟨Or.inr ⟨rfl, rfl, blk_set hgr3 0 _⟩, (hbr.trans (hb3.mono hbr.size)).setCell hgw _⟩
   case measure => simp [intOf]
  ·have hF := two_get wr g (fun k => w.heap.size ≤ k) cap ((n / y : Nat) : Int) _ hgr hcap1 hmx (by simpa using hcs) (by rw [Array.getElem?_setIfInBounds_self_of_lt]; omega) hgw
   have hK2 := cut_calls (some ⟨g, 0, none⟩) cap [((n / y : Nat) : Int)] wr (Kd.F_now hF) hcap1
   rw [(up_one (n / y) (div_lt_u n y hn)).1] at hK2
   go_wp2_with (go_at_call 155; go_must (refine hK2.mono ?_; rintro e w3 ⟨rfl, hb3⟩))
   go_ret3
   have hF2 := Kd.F_take hF (m := (lm (n / y)).length) (lm_le1 _ (div_lt_u n y hn))
   rw [(up_one (n / y) (div_lt_u n y hn)).2] at hF2
   refine ⟨_, rfl, ⟨some ⟨g, 0, none⟩, cap, rfl, ?_, Kd.F_below hF2 hb3⟩, hbr.trans (hb3.mono hbr.size)⟩
   exact Nat.le_trans (lm_le1 _ (div_lt_u n y hn)) hcap1
theorem IsN.F {w : World} {ok : Nat → Prop} {A : Option Addr} {m c n : Nat} (h : IsN w ok (.slice A m c) n) : (lm n).length ≤ c ∧ Kd.F (Kd.int .u64) w ok A (lm n).length (lm n) := by
 obtain ⟨_, _, e, hc, hF⟩ := h
 cases e
 exact ⟨hc, hF⟩
theorem new_drew (w : World) (o : Obj) : (w.alloc o).drew.heap[w.heap.size]? = some o := (MapKept.heap_alloc w o).1
theorem below_4 (w : World) (o1 o2 o3 o4 : Obj) : Below w.heap.size w ((((w.alloc o1).alloc o2).alloc o3).alloc o4) := (((below_aa w o1 o2).alloc (by simp; omega) _).alloc (by simp; omega) _)
theorem four_at (w : World) (o1 o2 o3 o4 : Obj) : ((((w.alloc o1).alloc o2).alloc o3).alloc o4).heap.size = w.heap.size + 4 ∧ ((((w.alloc o1).alloc o2).alloc o3).alloc o4).heap[w.heap.size]? = some o1 ∧ ((((w.alloc o1).alloc o2).alloc o3).alloc o4).heap[w.heap.size + 1]? = some o2 ∧ ((((w.alloc o1).alloc o2).alloc o3).alloc o4).heap[w.heap.size + 2]? = some o3 ∧ ((((w.alloc o1).alloc o2).alloc o3).alloc o4).heap[w.heap.size + 3]? = some o4 := by
 have s1 : (w.alloc o1).heap.size = w.heap.size + 1 := by simp
 have s2 : ((w.alloc o1).alloc o2).heap.size = w.heap.size + 2 := by simp
 have s3 : (((w.alloc o1).alloc o2).alloc o3).heap.size = w.heap.size + 3 := by simp
 have a1 : (w.alloc o1).heap[w.heap.size]? = some o1 := (MapKept.heap_alloc w o1).1
 have a2 : ((w.alloc o1).alloc o2).heap[w.heap.size + 1]? = some o2 := by rw [← s1]; exact (MapKept.heap_alloc _ o2).1
 have a3 : (((w.alloc o1).alloc o2).alloc o3).heap[w.heap.size + 2]? = some o3 := by rw [← s2]; exact (MapKept.heap_alloc _ o3).1
 have a4 : ((((w.alloc o1).alloc o2).alloc o3).alloc o4).heap[w.heap.size + 3]? = some o4 := by rw [← s3]; exact (MapKept.heap_alloc _ o4).1
 refine ⟨by simp, ?_, ?_, ?_, a4⟩
 ·exact (blk_alloc (blk_alloc (blk_alloc a1 _) _) _)
 ·exact (blk_alloc (blk_alloc a2 _) _)
 ·exact (blk_alloc a3 _)
set_option maxHeartbeats 8000000 in
set_option maxRecDepth 100000 in
theorem divmod_calls (A B : Option Addr) (ca cb a b : Nat) (ok : Nat → Prop) (w : World) (hA : IsN w ok (.slice A (lm a).length ca) a) (hB : IsN w ok (.slice B (lm b).length cb) b) (ha : a < 18446744073709551616) (hb0 : 0 < b) (hb : b < 18446744073709551616) :
  Calls Tryz.prog 130 #[.agg #[.slice A (lm a).length ca], .agg #[.slice B (lm b).length cb]] w fun e w' => ∃ q r, e = .returned (.tuple #[.agg #[q], .agg #[r], .int .i64 0]) ∧ IsN w' (fun k => ok k ∨ w.heap.size ≤ k) q (a / b) ∧ IsN w' (fun k => ok k ∨ w.heap.size ≤ k) r (a % b) ∧ Below w.heap.size w w' := by
 obtain ⟨_, _, eA, hca, hFA⟩ := hA
 cases eA
 obtain ⟨_, _, eB, hcb, hFB⟩ := hB
 cases eB
 have hlb : (lm b).length = 1 := by rw [lm_one b (by omega) hb]; rfl
 obtain ⟨s4, k1, k2, k3, k4⟩ := four_at w (.cells #[.slice A (lm a).length ca] 81) (.cells #[.slice B 1 cb] 81) (.cells #[.slice none 0 0] 81) (.cells #[.slice none 0 0] 81)
 have b4 := below_4 w (.cells #[.slice A (lm a).length ca] 81) (.cells #[.slice B 1 cb] 81) (.cells #[.slice none 0 0] 81) (.cells #[.slice none 0 0] 81)
 rw [hlb]
 by_cases h0 : a = 0
 ·subst h0
  have hl0 : (lm 0).length = 0 := rfl
  rw [hl0] at *
  go_enter Tryz.func130, Tryz.ntmps130
  go_wp2
  go_region
  go_wp2
  obtain ⟨s4', k1', k2', k3', k4'⟩ := four_at w (.cells #[.slice A 0 ca] 81) (.cells #[.slice B 1 cb] 81) (.cells #[.slice none 0 0] 81) (.cells #[.slice A 0 ca] 81)
  have b4' := below_drew (below_4 w (.cells #[.slice A 0 ca] 81) (.cells #[.slice B 1 cb] 81) (.cells #[.slice none 0 0] 81) (.cells #[.slice A 0 ca] 81))
  refine bodyPost_ret (results_list (rs := [.cell 4 81, .cell 5 81, .tmp 6]) rfl (by simp) (.cell (w.heap.size + 2) 81 #[.slice none 0 0] (0, 0) _ rfl k3' Tryz.underlying81 rfl (by kernel_rfl) (.cell (w.heap.size + 3) 81 #[.slice A 0 ca] (0, 0) _ rfl k4' Tryz.underlying81 rfl (by kernel_rfl) (.tmp .nil)))) rfl ?_
  rw [Nat.zero_div, Nat.zero_mod]
  exact ⟨_, _, rfl, IsN.nil _ _, IsN.below (IsN.mono ⟨A, ca, rfl, hca, hFA⟩ (fun k hk => Or.inl hk)) b4', b4'⟩
 ·have hla : (lm a).length = 1 := by rw [lm_one a h0 ha]; rfl
  obtain ⟨adB, eB, hxB, hxB0⟩ := lm_get b (by omega) hb (Kd.F_now hFB)
  cases eB
  have hO := fun (W : World) (hW : Below w.heap.size w W) => over_calls A ca a b W (Kd.C_below (Kd.F_now hFA) hW) hca h0 ha hb0
  rw [hla] at *
  have hx4 := (b4.cell (World.block_lt_of_cell? w _ hxB)).trans hxB
  have hx40 := (b4.cell (World.block_lt_of_cell? w _ hxB0)).trans hxB0
  have b4d := below_drew b4
  go_enter Tryz.func130, Tryz.ntmps130
  go_wp2
  go_region_with (go_at_call 146; go_must (refine (hO _ (by first | exact b4 | exact b4d)).mono ?_; rintro e w5 ⟨v5, rfl, hN5, hb5⟩; obtain ⟨Aq, cq, rfl⟩ := hN5.len))
  all_goals
   have hb5w := (below_drew b4).trans (hb5.mono (below_drew b4).size)
   have hq := hN5.F
   have hK7 := held_calls Aq cq (lm (a / b)) w5 (Kd.F_now hq.2) hq.1 (by rw [lm_up _ (by have := div_lt_u a b ha; omega)]; have := lm_le1 _ (div_lt_u a b ha); omega)
   rw [lm_up _ (by have := div_lt_u a b ha; omega)] at hK7
   go_wp2_with (go_at_call 147; go_must (refine hK7.mono ?_; rintro e w6 ⟨rfl, hb6⟩))
   have hS := fun W => small_calls (a % b) (Nat.lt_of_lt_of_le (Nat.mod_lt a hb0) (by omega)) W
   simp only [Int.natCast_emod] at hS
   have hb64 : Below w.heap.size w w6 := hb5w.trans (hb6.mono hb5w.size)
   have hk3 : w6.heap[w.heap.size + 1 + 1]? = some (.cells #[.slice none 0 0] 81 (0, 0)) := blk_below (blk_below (blk_drew k3) hb5) hb6
   have hk4 : w6.heap[w.heap.size + 1 + 1 + 1]? = some (.cells #[.slice none 0 0] 81 (0, 0)) := blk_below (blk_below (blk_drew k4) hb5) hb6
   have s6 : w.heap.size + 4 ≤ w6.heap.size := Nat.le_trans (Nat.le_of_eq s4.symm) (Nat.le_trans hb5.size hb6.size)
   have hnw := new_drew w6 (.cells #[.slice Aq (lm (a / b)).length (lm (a / b)).length] 81)
   have hb6d := below_drew ((Below.refl w6.heap.size w6).alloc (Nat.le_refl _) (.cells #[.slice Aq (lm (a / b)).length (lm (a / b)).length] 81))
   have hcn := cell_of_one hnw
   go_region_with (go_at_call 109; go_must (refine (hS _).mono ?_; rintro e w8 ⟨v8, rfl, hN8, hb8⟩; obtain ⟨Ar, cr, rfl⟩ := hN8.len; have hb68 := hb6d.trans (hb8.mono hb6d.size); have hj3 := blk_below hk3 hb68; have hj4 := blk_below hk4 hb68; have hcn8 := cell_of_one (blk_below hnw hb8); have hc3 := cell_of_one hj3; have hc4 := cell_of_one hj4; have hf3 := Joins.unfrozen_of_block hj3 0; have hf4 := Joins.unfrozen_of_block hj4 0))
   all_goals
    go_wp2
    have n23 : w.heap.size + 1 + 1 ≠ w.heap.size + 1 + 1 + 1 := by omega
    have hb8w : Below w.heap.size w w8 := hb64.trans (hb68.mono hb64.size)
    have s5 : (((((w.alloc (.cells #[.slice A 1 ca] 81)).alloc (.cells #[.slice (some adB) 1 cb] 81)).alloc (.cells #[.slice none 0 0] 81)).alloc (.cells #[.slice none 0 0] 81)).drew).heap.size = w.heap.size + 4 := s4
    refine bodyPost_ret (results_list (rs := [.cell 4 81, .cell 5 81, .tmp 6]) rfl (by simp) (.cell (w.heap.size + 1 + 1) 81 #[.slice Aq (lm (a / b)).length (lm (a / b)).length] (0, 0) _ rfl (blk_far ((blk_set hj3 0 _).trans rfl) n23 _) Tryz.underlying81 rfl (by kernel_rfl) (.cell (w.heap.size + 1 + 1 + 1) 81 #[.slice Ar (lm (a % b)).length cr] (0, 0) _ rfl ((blk_set (blk_far hj4 (Ne.symm n23) _) 0 _).trans rfl) Tryz.underlying81 rfl (by kernel_rfl) (.tmp .nil)))) rfl ?_
    refine ⟨_, _, rfl, ⟨Aq, _, rfl, Nat.le_refl _, ?_⟩, IsN.mono (IsN.far (IsN.far hN8 (fun k hk => ?_) _) (fun k hk => ?_) _) (fun k hk => ?_), (hb8w.setCell (by show w.heap.size ≤ w.heap.size + 1 + 1; omega) _).setCell (by show w.heap.size ≤ w.heap.size + 1 + 1 + 1; omega) _⟩
    ·refine Kd.F_mono (Kd.F_far (Kd.F_far (Kd.F_below (Kd.F_below hq.2 hb6) hb68) (fun k hk => ?_) _) (fun k hk => ?_) _) (fun k hk => ?_)
     ·show k ≠ w.heap.size + 1 + 1; rw [s5] at hk; omega
     ·show k ≠ w.heap.size + 1 + 1 + 1; rw [s5] at hk; omega
     ·rw [s5] at hk; exact Or.inr (by omega)
    ·have hk : w6.heap.size + 1 ≤ k := by simpa using hk
     show k ≠ w.heap.size + 1 + 1; omega
    ·have hk : w6.heap.size + 1 ≤ k := by simpa using hk
     show k ≠ w.heap.size + 1 + 1 + 1; omega
    ·have hk : w6.heap.size + 1 ≤ k := by simpa using hk
     exact Or.inr (by omega)
theorem below_3 (w : World) (o1 o2 o3 : Obj) : Below w.heap.size w (((w.alloc o1).alloc o2).alloc o3) := (below_aa w o1 o2).alloc (by simp; omega) _
theorem three_at (w : World) (o1 o2 o3 : Obj) : (((w.alloc o1).alloc o2).alloc o3).heap.size = w.heap.size + 3 ∧ (((w.alloc o1).alloc o2).alloc o3).heap[w.heap.size]? = some o1 ∧ (((w.alloc o1).alloc o2).alloc o3).heap[w.heap.size + 1]? = some o2 ∧ (((w.alloc o1).alloc o2).alloc o3).heap[w.heap.size + 1 + 1]? = some o3 := by
 have s1 : (w.alloc o1).heap.size = w.heap.size + 1 := by simp
 have s2 : ((w.alloc o1).alloc o2).heap.size = w.heap.size + 1 + 1 := by simp
 have a1 : (w.alloc o1).heap[w.heap.size]? = some o1 := (MapKept.heap_alloc w o1).1
 have a2 : ((w.alloc o1).alloc o2).heap[w.heap.size + 1]? = some o2 := by rw [← s1]; exact (MapKept.heap_alloc _ o2).1
 have a3 : (((w.alloc o1).alloc o2).alloc o3).heap[w.heap.size + 1 + 1]? = some o3 := by rw [← s2]; exact (MapKept.heap_alloc _ o3).1
 exact ⟨by simp, blk_alloc (blk_alloc a1 _) _, blk_alloc a2 _, a3⟩
structure GcdAt (w : World) (ok : Nat → Prop) (G kq : Nat) (wr : World) (a b : Nat) (Aa Ab : Option Addr) (ca cb : Nat) : Prop where
 gcd : Nat.gcd a b = G
 la : a < 18446744073709551616
 lb : b < 18446744073709551616
 lt : b < kq
 ba : wr.heap[w.heap.size]? = some (.cells #[.slice Aa (lm a).length ca] 81 (0, 0))
 bb : wr.heap[w.heap.size + 1]? = some (.cells #[.slice Ab (lm b).length cb] 81 (0, 0))
 br : wr.heap[w.heap.size + 1 + 1]? = some (.cells #[.slice none 0 0] 81 (0, 0))
 na : IsN wr (fun k => ok k ∨ w.heap.size + 3 ≤ k) (.slice Aa (lm a).length ca) a
 nb : IsN wr (fun k => ok k ∨ w.heap.size + 3 ≤ k) (.slice Ab (lm b).length cb) b
 bel : Below w.heap.size w wr
set_option maxHeartbeats 8000000 in
set_option maxRecDepth 100000 in
theorem gcd_calls (A B : Option Addr) (ca cb a b : Nat) (ok : Nat → Prop) (w : World) (hok : ∀ k, ok k → k < w.heap.size) (hA : IsN w ok (.slice A (lm a).length ca) a) (hB : IsN w ok (.slice B (lm b).length cb) b) (ha : a < 18446744073709551616) (hb : b < 18446744073709551616) :
  Calls Tryz.prog 129 #[.agg #[.slice A (lm a).length ca], .agg #[.slice B (lm b).length cb]] w fun e w' => ∃ A' c', e = .returned (.agg #[.slice A' (lm (Nat.gcd a b)).length c']) ∧ IsN w' (fun k => ok k ∨ w.heap.size ≤ k) (.slice A' (lm (Nat.gcd a b)).length c') (Nat.gcd a b) ∧ Below w.heap.size w w' := by
 obtain ⟨s3, k1, k2, k3⟩ := three_at w (.cells #[.slice A (lm a).length ca] 81) (.cells #[.slice B (lm b).length cb] 81) (.cells #[.slice none 0 0] 81)
 have b3 := below_3 w (.cells #[.slice A (lm a).length ca] 81) (.cells #[.slice B (lm b).length cb] 81) (.cells #[.slice none 0 0] 81)
 have hst : GcdAt w ok (Nat.gcd a b) (b + 1) _ a b A B ca cb := ⟨rfl, ha, hb, Nat.lt_succ_self _, k1, k2, k3, IsN.below (IsN.mono hA (fun k hk => Or.inl hk)) b3, IsN.below (IsN.mono hB (fun k hk => Or.inl hk)) b3, b3⟩
 obtain ⟨G, hG⟩ : ∃ G, Nat.gcd a b = G := ⟨_, rfl⟩
 rw [hG] at hst ⊢
 go_enter Tryz.func129, Tryz.ntmps129
 go_wp2
 go_loopg [7] (b + 1) (fun kq s7 wr => ∃ a' b' Aa Ab ca' cb', GcdAt w ok G kq wr a' b' Aa Ab ca' cb')
 case atStart => exact ⟨_, _, _, _, _, _, hst⟩
 case round =>
  obtain ⟨a', b', Aa, Ab, ca', cb', H⟩ := hrel
  have hcA := cell_of_one H.ba
  have hcB := cell_of_one H.bb
  have hcR := cell_of_one H.br
  have hfR := Joins.unfrozen_of_block H.br 0
  by_cases h0 : b' = 0
  ·subst h0
   obtain rfl : a' = G := by have := H.gcd; rwa [Nat.gcd_zero_right] at this
   rw [lm_zero] at *
   go_wp2_with (go_at_call 113; go_must (refine (isZero_calls Ab 0 cb' _).mono ?_; rintro e w2 ⟨rfl, hb2⟩; rw [show decide (((0 : Nat) : Int) = 0) = true from rfl]; have hcA2 := cell_of_one (blk_below H.ba hb2); have hcR2 := cell_of_one (blk_below H.br hb2); have hfR2 := Joins.unfrozen_of_block (blk_below H.br hb2) 0))
   refine bodyPost_ret (results_cell_row rfl _ _ (w.heap.size + 1 + 1) 81 #[.slice Aa (lm a').length ca'] (0, 0) _ rfl ((blk_set (blk_below H.br hb2) 0 _).trans rfl) Tryz.underlying81 rfl (by kernel_rfl)) rfl ?_
   refine ⟨_, _, rfl, IsN.mono (IsN.far (IsN.below H.na hb2) (fun k hk => ?_) _) (fun k hk => hk.imp id fun h => by omega), (H.bel.trans (hb2.mono H.bel.size)).setCell (by show w.heap.size ≤ w.heap.size + 1 + 1; omega) _⟩
   show k ≠ w.heap.size + 1 + 1
   rcases hk with hk | hk
   ·have := hok k hk; omega
   ·omega
  ·obtain ⟨kq, rfl⟩ : ∃ q, gk = q + 1 := ⟨gk - 1, by have := H.lt; omega⟩
   have hd : decide (((lm b').length : Int) = 0) = false := decide_eq_false (by have := lm_len0 b'; omega)
   go_wp2_with (first
    | (go_at_call 113; go_must (refine (isZero_calls Ab _ cb' _).mono ?_; rintro e w2 ⟨rfl, hb2⟩; rw [hd]; have hcA2 := cell_of_one (blk_below H.ba hb2); have hcB2 := cell_of_one (blk_below H.bb hb2)))
    | (go_at_call 130; go_must (refine (divmod_calls Aa Ab ca' cb' a' b' (fun k => ok k ∨ w.heap.size + 3 ≤ k) _ (IsN.below H.na hb2) (IsN.below H.nb hb2) H.la (by omega) H.lb).mono ?_; rintro e w3 ⟨q, r, rfl, hq, hr, hb3⟩; obtain ⟨Aq, cq, rfl⟩ := hq.len; obtain ⟨Ar, cr, rfl⟩ := hr.len)))
   have g1 := blk_alloc (blk_alloc (blk_below (blk_below H.ba hb2) hb3) (.cells #[.slice Aq (lm (a' / b')).length cq] 81)) (.cells #[.slice Ar (lm (a' % b')).length cr] 81)
   have g2 := blk_alloc (blk_alloc (blk_below (blk_below H.bb hb2) hb3) (.cells #[.slice Aq (lm (a' / b')).length cq] 81)) (.cells #[.slice Ar (lm (a' % b')).length cr] 81)
   have g3 := blk_alloc (blk_alloc (blk_below (blk_below H.br hb2) hb3) (.cells #[.slice Aq (lm (a' / b')).length cq] 81)) (.cells #[.slice Ar (lm (a' % b')).length cr] 81)
   have g4 := new_two w3 (.cells #[.slice Aq (lm (a' / b')).length cq] 81) (.cells #[.slice Ar (lm (a' % b')).length cr] 81)
   have hb35 := below_aa w3 (.cells #[.slice Aq (lm (a' / b')).length cq] 81) (.cells #[.slice Ar (lm (a' % b')).length cr] 81)
   have hbw2 := H.bel.trans (hb2.mono H.bel.size)
   have hbw3 := hbw2.trans (hb3.mono hbw2.size)
   have hbw5 := below_drew (hbw3.trans (hb35.mono hbw3.size))
   have hN3 : w.heap.size + 3 ≤ w2.heap.size := by have := lt_blk (blk_below H.br hb2); omega
   have e1 := cell_of_one g1
   have e2 := cell_of_one g2
   have e4 := cell_of_one g4
   have f1 := Joins.unfrozen_of_block g1 0
   have f2 := Joins.unfrozen_of_block g2 0
   have hs3 : w.heap.size + 3 ≤ w3.heap.size := Nat.le_trans hN3 hb3.size
   have d1 : ¬ w.heap.size = w3.heap.size + 1 := by omega
   have d2 : ¬ w3.heap.size + 1 = w.heap.size := by omega
   have d3 : ¬ w.heap.size = w3.heap.size := by omega
   have d4 : ¬ w3.heap.size = w.heap.size := by omega
   go_region
   all_goals
    go_wp2
    go_roundg kq
    case measure => omega
    case rel =>
     have n1 : w.heap.size ≠ w.heap.size + 1 := by omega
     have n2 : w.heap.size + 1 ≠ w.heap.size := by omega
     have hbd : ∀ (W : World), Below W.heap.size W W.drew := fun W => below_drew (Below.refl _ _)
     have hkN : ∀ k, (ok k ∨ w.heap.size + 3 ≤ k) → k ≠ w.heap.size ∧ k ≠ w.heap.size + 1 := fun k hk => by
      rcases hk with hk | hk
      ·have := hok k hk; omega
      ·omega
     refine ⟨b', a' % b', Ab, Ar, cb', cr, ⟨?_, H.lb, Nat.lt_of_lt_of_le (Nat.mod_lt a' (by omega)) (by have := H.lb; omega), ?_, ?_, ?_, ?_, ?_, ?_, ?_⟩⟩
     ·rw [Nat.gcd_comm, ← Nat.gcd_rec, Nat.gcd_comm]; exact H.gcd
     ·have := Nat.mod_lt a' (show 0 < b' by omega); have := H.lt; omega
     ·exact blk_drew (blk_far ((blk_set g1 0 _).trans rfl) n1 _)
     ·exact blk_drew ((blk_set (blk_far g2 n2 _) 0 _).trans rfl)
     ·exact blk_drew (blk_far (blk_far g3 (by show w.heap.size + 1 + 1 ≠ w.heap.size; omega) _) (by show w.heap.size + 1 + 1 ≠ w.heap.size + 1; omega) _)
     ·exact IsN.below (IsN.far (IsN.far (IsN.below (IsN.below (IsN.below H.nb hb2) hb3) hb35) (fun k hk => (hkN k hk).1) _) (fun k hk => (hkN k hk).2) _) (hbd _)
     ·exact IsN.below (IsN.far (IsN.far (IsN.mono (IsN.below hr hb35) (fun k hk => hk.elim id fun h => Or.inr (by omega))) (fun k hk => (hkN k hk).1) _) (fun k hk => (hkN k hk).2) _) (hbd _)
     ·exact below_drew ((Below.setCell (Below.setCell (hbw3.trans (hb35.mono hbw3.size)) (by show w.heap.size ≤ w.heap.size; omega) _) (by show w.heap.size ≤ w.heap.size + 1; omega) _))
theorem bitLen_range (x : Nat) (h0 : x ≠ 0) (hx : x < 18446744073709551616) : 1 ≤ Lib.bitLen x ∧ Lib.bitLen x ≤ 64 := by
 obtain ⟨h1, h2, _⟩ := Lib.bitLenAux_bounds 64 x hx h0
 refine ⟨h1, Nat.le_of_not_lt fun h => ?_⟩
 have : 2 ^ 64 ≤ 2 ^ (Lib.bitLenAux 64 x - 1) := Nat.pow_le_pow_right (by decide) (by unfold Lib.bitLen at h; omega)
 omega
set_option maxHeartbeats 400000 in
set_option maxRecDepth 100000 in
theorem lbits_calls (A : Option Addr) (c n : Nat) (w : World) (hC : Kd.C (Kd.int .u64) w A (lm n).length (lm n)) (hc : (lm n).length ≤ c) (hn : n < 18446744073709551616) :
  Calls Tryz.prog 170 #[.slice A (lm n).length c] w fun e w' => e = .returned (.int .i64 (if n = 0 then 0 else (Lib.bitLen n : Int))) ∧ Below w.heap.size w w' := by
 have hK := cut_calls A c (lm n) w hC hc
 rw [lm_up n (by omega)] at hK
 by_cases h0 : n = 0
 ·subst h0
  rw [lm_zero] at *
  go_enter Tryz.func170, Tryz.ntmps170
  go_wp2_with (go_at_call 155; go_must (refine hK.mono ?_; rintro e w1 ⟨rfl, hb⟩))
  go_ret
  exact ⟨rfl, hb⟩
 ·obtain ⟨ad, rfl, hx, hx0⟩ := lm_get n h0 hn hC
  have hl : (lm n).length = 1 := by rw [lm_one n h0 hn]; rfl
  rw [hl] at hK hc ⊢
  have hr := bitLen_range n h0 hn
  have hL := fun W => Tryz.bits_Len64 (n : Int) W (by omega) (by omega)
  simp only [Int.toNat_natCast] at hL
  obtain ⟨B, hB⟩ : ∃ B, Lib.bitLen n = B := ⟨_, rfl⟩
  rw [hB] at hL hr ⊢
  rw [if_neg h0]
  have hw : IntKind.i64.wrap (B : Int) = (B : Int) := by rw [i64_w]; unfold wrap64; omega
  go_enter Tryz.func170, Tryz.ntmps170
  go_wp2_with (first
   | (go_at_call 155; go_must (refine hK.mono ?_; rintro e w1 ⟨rfl, hb⟩; have hy := (hb.cell (World.block_lt_of_cell? w _ hx)).trans hx; have hy0 := (hb.cell (World.block_lt_of_cell? w _ hx0)).trans hx0))
   | (go_at_call 70; go_must (refine (hL _).mono ?_; rintro e w2 ⟨rfl, rfl⟩)))
  go_ret
  exact ⟨rfl, hb⟩
set_option maxHeartbeats 400000 in
set_option maxRecDepth 100000 in
theorem nbits_calls (A : Option Addr) (c n : Nat) (w : World) (hC : Kd.C (Kd.int .u64) w A (lm n).length (lm n)) (hc : (lm n).length ≤ c) (hn : n < 18446744073709551616) :
  Calls Tryz.prog 154 #[.agg #[.slice A (lm n).length c]] w fun e w' => e = .returned (.int .i64 (if n = 0 then 0 else (Lib.bitLen n : Int))) ∧ Below w.heap.size w w' := by
 have hb1 : Below w.heap.size w (w.alloc (.cells #[.slice A (lm n).length c] 81)) := (Below.refl _ _).alloc (Nat.le_refl _) _
 have hK := lbits_calls A c n _ (Kd.C_below hC hb1) hc hn
 obtain ⟨R, hR⟩ : ∃ R : Int, (if n = 0 then (0 : Int) else (Lib.bitLen n : Int)) = R := ⟨_, rfl⟩
 rw [hR] at hK ⊢
 clear hR
 go_enter Tryz.func154, Tryz.ntmps154
 go_wp2_with (go_at_call 170; go_must (refine hK.mono ?_; rintro e w1 ⟨rfl, hb⟩))
 go_ret
 exact ⟨rfl, hb1.trans (hb.mono hb1.size)⟩
set_option maxHeartbeats 400000 in
set_option maxRecDepth 100000 in
theorem limbs_calls (A : Option Addr) (c n : Nat) (w : World) (hC : Kd.C (Kd.int .u64) w A (lm n).length (lm n)) (hc : (lm n).length ≤ c) (hn : n < 18446744073709551616) :
  Calls Tryz.prog 131 #[.agg #[.slice A (lm n).length c]] w fun e w' => e = .returned (.int .i64 ((lm n).length : Int)) ∧ Below w.heap.size w w' := by
 have hb1 : Below w.heap.size w (w.alloc (.cells #[.slice A (lm n).length c] 81)) := (Below.refl _ _).alloc (Nat.le_refl _) _
 have hK := nbits_calls A c n _ (Kd.C_below hC hb1) hc hn
 obtain ⟨B, hB, hB2⟩ : ∃ B : Int, (if n = 0 then (0 : Int) else (Lib.bitLen n : Int)) = B ∧ (B + 63) / 64 = ((lm n).length : Int) ∧ 0 ≤ B ∧ B ≤ 64 := by
  refine ⟨_, rfl, ?_⟩
  by_cases h0 : n = 0
  ·subst h0; exact ⟨rfl, Int.le_refl _, by decide⟩
  ·have := bitLen_range n h0 hn
   have hl : (lm n).length = 1 := by rw [lm_one n h0 hn]; rfl
   rw [if_neg h0, hl]
   refine ⟨?_, by omega, by omega⟩
   show ((Lib.bitLen n : Int) + 63) / 64 = 1
   omega
 rw [hB] at hK
 have hw : IntKind.i64.wrap (B + 63) = B + 63 := by rw [i64_w]; unfold wrap64; omega
 have hq : (B + 63).tdiv 64 = ((lm n).length : Int) := by rw [Int.tdiv_eq_ediv_of_nonneg (by omega)]; exact hB2.1
 have hw2 : IntKind.i64.wrap ((lm n).length : Int) = ((lm n).length : Int) := by have := lm_le1 n hn; rw [i64_w]; unfold wrap64; omega
 go_enter Tryz.func131, Tryz.ntmps131
 go_wp2_with (go_at_call 154; go_must (refine hK.mono ?_; rintro e w1 ⟨rfl, hb⟩))
 go_ret
 exact ⟨rfl, hb1.trans (hb.mono hb1.size)⟩
theorem IsN.put {w : World} {ok : Nat → Prop} {v : Value} {n : Nat} (h : IsN w ok v n) (g : Nat) (u : Value) (hk : ∀ k, ok k → k ≠ g) : IsN (w.setCell ⟨g, 0, none⟩ u) ok v n := IsN.far h hk u
theorem IsN.alloc {w : World} {ok : Nat → Prop} {v : Value} {n : Nat} (h : IsN w ok v n) (o : Obj) : IsN (w.alloc o) ok v n := IsN.below h ((Below.refl _ _).alloc (Nat.le_refl _) o)
theorem new_at (w : World) (o : Obj) : (w.alloc o).heap[w.heap.size]? = some o := (MapKept.heap_alloc w o).1
theorem put_nil {w : World} {g t : Nat} (h : w.heap[g]? = some (.cells #[.slice none 0 0] t (0, 0))) (u : Value) : (w.setCell ⟨g, 0, none⟩ u).heap[g]? = some (.cells #[u] t (0, 0)) := (blk_set h 0 u).trans rfl
theorem box_facts {w : World} {g t : Nat} (h : w.heap[g]? = some (.cells #[.slice none 0 0] t (0, 0))) : w.cell? ⟨g, 0, none⟩ = some (.slice none 0 0) ∧ w.frozen? ⟨g, 0, none⟩ = false ∧ (∀ o, (w.alloc o).cell? ⟨g, 0, none⟩ = some (.slice none 0 0)) ∧ (∀ o, (w.alloc o).frozen? ⟨g, 0, none⟩ = false) ∧ g < w.heap.size ∧ (¬ g = w.heap.size) ∧ ¬ w.heap.size = g := by
 have hl := lt_blk h
 exact ⟨cell_of_one h, Joins.unfrozen_of_block h 0, fun o => cell_of_one (blk_alloc h o), fun o => Joins.unfrozen_of_block (blk_alloc h o) 0, hl, by omega, by omega⟩
theorem below_sa {B : Nat} {a w : World} {g : Nat} (u : Value) (o : Obj) (h : Below B a w) (hg : B ≤ g) (hB : B ≤ w.heap.size) : Below B a ((w.setCell ⟨g, 0, none⟩ u).alloc o) := (h.setCell hg u).alloc (by simpa [World.setCell] using hB) o
theorem size_s (w : World) (g : Nat) (u : Value) : (w.setCell ⟨g, 0, none⟩ u).heap.size = w.heap.size := by simp [World.setCell]
theorem put_far {w : World} {g t : Nat} {cs : Array Value} (h : w.heap[g]? = some (.cells cs t (0, 0))) {g' : Nat} (u : Value) (hne : g ≠ g') : (w.setCell ⟨g', 0, none⟩ u).heap[g]? = some (.cells cs t (0, 0)) := blk_far h hne u
theorem new_s (w : World) (g : Nat) (u : Value) (o : Obj) : ((w.setCell ⟨g, 0, none⟩ u).alloc o).heap[w.heap.size]? = some o := by rw [← size_s w g u]; exact new_at _ _
theorem size_d (w : World) : w.drew.heap.size = w.heap.size := rfl
theorem size_a (w : World) (o : Obj) : (w.alloc o).heap.size = w.heap.size + 1 := by simp
theorem below_s (B : Nat) (a w : World) (g : Nat) (u : Value) (h : Below B a w) (hg : B ≤ g) : Below B a (w.setCell ⟨g, 0, none⟩ u) := h.setCell hg u
set_option maxHeartbeats 2000000 in
set_option maxRecDepth 100000 in
theorem lowest_calls (A B : Option Addr) (ca cb x t : Nat) (ok : Nat → Prop) (w : World) (hok : ∀ k, ok k → k < w.heap.size) (hA : IsN w ok (.slice A (lm x).length ca) x) (hB : IsN w ok (.slice B (lm t).length cb) t) (hx0 : x ≠ 0) (ht0 : 0 < t) (hx : x < 18446744073709551616) (ht : t < 18446744073709551616) :
  Calls Tryz.prog 106 #[.agg #[.bool false, .slice A (lm x).length ca], .agg #[.slice B (lm t).length cb]] w fun e w' => ∃ An cn Ad cd, e = .returned (.tuple #[.agg #[.bool false, .slice An (lm (x / Nat.gcd x t)).length cn, .slice Ad (lm (t / Nat.gcd x t)).length cd], .int .i64 0]) ∧ IsN w' (fun k => ok k ∨ w.heap.size ≤ k) (.slice An (lm (x / Nat.gcd x t)).length cn) (x / Nat.gcd x t) ∧ IsN w' (fun k => ok k ∨ w.heap.size ≤ k) (.slice Ad (lm (t / Nat.gcd x t)).length cd) (t / Nat.gcd x t) ∧ Below w.heap.size w w' := by
 obtain ⟨s3, k1, k2, k3⟩ := three_at w (.cells #[.bool false, .slice A (lm x).length ca] 83) (.cells #[.slice B (lm t).length cb] 81) (.cells #[.bool false, .slice none 0 0, .slice none 0 0] 85)
 have b3 := below_3 w (.cells #[.bool false, .slice A (lm x).length ca] 83) (.cells #[.slice B (lm t).length cb] 81) (.cells #[.bool false, .slice none 0 0, .slice none 0 0] 85)
 obtain ⟨W0, hW0⟩ : ∃ W0, ((w.alloc (.cells #[.bool false, .slice A (lm x).length ca] 83)).alloc (.cells #[.slice B (lm t).length cb] 81)).alloc (.cells #[.bool false, .slice none 0 0, .slice none 0 0] 85) = W0 := ⟨_, rfl⟩
 rw [hW0] at s3 k1 k2 k3 b3
 have K : ∀ W', Below W0.heap.size W0 W' → W'.cell? ⟨w.heap.size, 0, none⟩ = some (.bool false) ∧ W'.cell? ⟨w.heap.size, 1, none⟩ = some (.slice A (lm x).length ca) ∧ W'.cell? ⟨w.heap.size + 1, 0, none⟩ = some (.slice B (lm t).length cb) := fun W' hb =>
  ⟨(blk_cell (blk_below k1 hb) 0).trans rfl, (blk_cell (blk_below k1 hb) 1).trans rfl, (blk_cell (blk_below k2 hb) 0).trans rfl⟩
 have hlx : ((lm x).length) ≠ 0 := fun h => hx0 ((lm_len0 x).1 h)
 have hS := fun W => sign_calls A (lm x).length ca W
 simp only [if_neg hlx] at hS
 obtain ⟨G, hG⟩ : ∃ G, Nat.gcd x t = G := ⟨_, rfl⟩
 have hG0 : 0 < G := by rw [← hG]; exact Nat.gcd_pos_of_pos_left t (Nat.pos_of_ne_zero hx0)
 have hGl : G < 18446744073709551616 := by rw [← hG]; exact Nat.lt_of_le_of_lt (Nat.gcd_le_left t (Nat.pos_of_ne_zero hx0)) hx
 have hGcd := fun (W : World) (hW : Below W0.heap.size W0 W) => gcd_calls A B ca cb x t ok W (fun k hk => Nat.lt_of_lt_of_le (hok k hk) (Nat.le_trans b3.size hW.size)) (IsN.below (IsN.below hA b3) hW) (IsN.below (IsN.below hB b3) hW) hx ht
 rw [hG] at hGcd ⊢
 have K0 := K W0 (Below.refl _ _)
 obtain ⟨K00, K01, K02⟩ := K0
 go_enter Tryz.func106, Tryz.ntmps106
 go_upto_region 3 with (go_at_call 104; go_must (refine (hS _).mono ?_; rintro e w1 ⟨rfl, hb1⟩))
 obtain ⟨K10, K11, K12⟩ := K _ hb1
 obtain ⟨ok2, hok2⟩ : ∃ ok2 : Nat → Prop, ok2 = fun k => ok k ∨ w.heap.size + 3 ≤ k := ⟨_, rfl⟩
 have hb1d := below_drew hb1
 have hb1a := below_drew (hb1.alloc hb1.size (.cells #[.slice none 0 0] 81))
 have hnew1 := new_drew w1 (.cells #[.slice none 0 0] 81)
 have hs1 : w.heap.size + 3 ≤ w1.heap.size := by have := hb1.size; omega
 go_cut [6] (fun s6 wx => ∃ g6 Ag cg, s6 = .pointer (some ⟨g6, 0, none⟩) ∧ wx.heap[g6]? = some (.cells #[.slice Ag (lm G).length cg] 81 (0, 0)) ∧ IsN wx ok2 (.slice Ag (lm G).length cg) G ∧ w.heap.size + 3 ≤ g6 ∧ Below W0.heap.size W0 wx)
 case first =>
  have hS1 := And.intro hb1d (K _ hb1d)
  have hSS : ∀ W, Below W0.heap.size W0 W → Below W0.heap.size W0 W ∧ W.cell? ⟨w.heap.size, 0, none⟩ = some (.bool false) ∧ W.cell? ⟨w.heap.size, 1, none⟩ = some (.slice A (lm x).length ca) ∧ W.cell? ⟨w.heap.size + 1, 0, none⟩ = some (.slice B (lm t).length cb) := fun W h1 => ⟨h1, K _ h1⟩
  have HS := Lib.hid hSS
  clear hSS
  have hW0s : W0.heap.size ≤ w1.heap.size := hb1.size
  have HN := Lib.hid (fun (w2 w3 : World) (o : Obj) (hb : Below (w2.alloc o).heap.size (w2.alloc o) w3) => (hb.block w2.heap.size (by simp)).trans (MapKept.heap_alloc w2 o).1)
  have HND := Lib.hid (fun (w2 w3 : World) (o : Obj) (hb : Below (w2.alloc o).drew.heap.size (w2.alloc o).drew w3) => (hb.block w2.heap.size (show w2.heap.size < (w2.alloc o).heap.size by simp)).trans (MapKept.heap_alloc w2 o).1)
  have HK := Lib.hid (fun (w2 w3 : World) (g : Nat) (o : Obj) (e : w2.heap[g]? = some o) (hb : Below w2.heap.size w2 w3) => (hb.block _ (lt_blk e)).trans e)
  go_region_held3 (fun w' => Below W0.heap.size W0 w' ∧ w'.cell? ⟨w.heap.size, 0, none⟩ = some (.bool false) ∧ w'.cell? ⟨w.heap.size, 1, none⟩ = some (.slice A (lm x).length ca) ∧ w'.cell? ⟨w.heap.size + 1, 0, none⟩ = some (.slice B (lm t).length cb))
   (first | with_reducible exact hS1 | with_reducible assumption | exact HS.out _ (below_drew (Below.alloc hb1 hb1.size _)) | exact HS.out _ (Below.alloc (by first | with_reducible assumption | exact And.left (by with_reducible assumption)) (by first | exact Below.size (by with_reducible assumption) | exact Below.size (by first | with_reducible assumption | exact And.left (by with_reducible assumption))) _) | exact HS.out _ (Below.setCell (by first | with_reducible assumption | exact And.left (by with_reducible assumption)) (by first | exact Below.size (by with_reducible assumption) | exact hW0s) _) | go_keep)
   (first
    | (go_at_call 107; refine (abs_calls _ _ _ _ _).mono ?_; rintro e w2 ⟨rfl, hb2⟩; have hs2b := Below.trans (by first | with_reducible assumption | exact And.left (by with_reducible assumption)) (Below.mono hb2 (Below.size (by first | with_reducible assumption | exact And.left (by with_reducible assumption)))); have hs2 := HS.out _ hs2b; (first | (with_reducible (have z2 := HND.out _ _ _ hb2)) | skip))
    | (go_at_call 129; refine (hGcd _ (by first | with_reducible assumption | exact And.left (by with_reducible assumption))).mono ?_; rintro e w3 ⟨Ag, cg, rfl, hNg, hb3⟩; have hs3b := Below.trans (by first | with_reducible assumption | exact And.left (by with_reducible assumption)) (Below.mono hb3 (Below.size (by first | with_reducible assumption | exact And.left (by with_reducible assumption)))); have hs3 := HS.out _ hs3b; (first | (with_reducible (have z3 := HN.out _ _ _ hb3)) | (with_reducible (have z3 := HK.out _ _ _ _ z2 hb3)) | skip); (first | (have zc3 := cell_of_one z3; have zf3 := Joins.unfrozen_of_block z3 0) | skip)))
  all_goals
   go_wp2_with fail
   go_meet
   case rel =>
    have q2 := hb2.size
    have q3 := hb3.size
    try simp only [size_d, size_a] at q2
    try simp only [size_d, size_a] at q3
    refine ⟨_, Ag, cg, rfl, ?_, ?_, ?_, ?_⟩
    ·repeat (with_reducible first | exact new_at _ _ | refine blk_drew ?_ | refine put_nil ?_ _ | refine blk_alloc ?_ _ | refine blk_below ?_ hb3 | refine blk_below ?_ hb2)
    ·have hq := IsN.bound hNg
     have hf1 : ∀ k, (ok k ∨ w2.heap.size ≤ k) ∧ k < w3.heap.size → ok2 k := fun k hk => by rw [hok2]; exact hk.1.imp id fun h => by omega
     have hf2 : ∀ k, (ok k ∨ w2.heap.size + 1 ≤ k) ∧ k < w3.heap.size → ok2 k := fun k hk => by rw [hok2]; exact hk.1.imp id fun h => by omega
     try simp only [size_a] at hq
     first
      | with_reducible exact IsN.mono (IsN.alloc hq _) (by first | with_reducible exact hf1 | with_reducible exact hf2)
      | (with_reducible refine IsN.mono (IsN.put hq _ _ ?_) (by first | with_reducible exact hf1 | with_reducible exact hf2); intro k hk; obtain ⟨hk, _⟩ := hk; rcases hk with hk | hk <;> first | (have := hok k hk; omega) | omega)
    ·omega
    ·first | exact Below.alloc (by with_reducible assumption) (by omega) _ | exact below_s _ _ _ _ _ (by with_reducible assumption) (by omega)
 case rest =>
  rename World => w4
  obtain ⟨g6, Ag, cg, rfl, hz6, hNG, hg6, hBc⟩ := hcut
  obtain ⟨ok3, hok3⟩ : ∃ ok3 : Nat → Prop, ok3 = fun k => ok2 k ∧ k < w4.heap.size := ⟨_, rfl⟩
  have hsc : w.heap.size + 3 ≤ w4.heap.size := Nat.le_trans (Nat.le_of_eq s3.symm) hBc.size
  have hNG3 : IsN w4 ok3 (.slice Ag (lm G).length cg) G := IsN.mono (IsN.bound hNG) (fun k hk => by rw [hok3]; exact hk)
  have hNA3 : IsN w4 ok3 (.slice A (lm x).length ca) x := IsN.mono (IsN.below (IsN.below hA b3) hBc) (fun k hk => by rw [hok3, hok2]; exact ⟨.inl hk, by have := hok k hk; omega⟩)
  have hNB3 : IsN w4 ok3 (.slice B (lm t).length cb) t := IsN.mono (IsN.below (IsN.below hB b3) hBc) (fun k hk => by rw [hok3, hok2]; exact ⟨.inl hk, by have := hok k hk; omega⟩)
  have hok3l : ∀ k, ok3 k → k < w4.heap.size := fun k hk => by rw [hok3] at hk; exact hk.2
  have hok32 : ∀ k, ok3 k → ok2 k := fun k hk => by rw [hok3] at hk; exact hk.1
  have hS4 : ∀ W, Below w4.heap.size w4 W → Below w4.heap.size w4 W ∧ W.cell? ⟨w.heap.size, 0, none⟩ = some (.bool false) ∧ W.cell? ⟨w.heap.size, 1, none⟩ = some (.slice A (lm x).length ca) ∧ W.cell? ⟨w.heap.size + 1, 0, none⟩ = some (.slice B (lm t).length cb) ∧ W.cell? ⟨g6, 0, none⟩ = some (.slice Ag (lm G).length cg) := fun W h1 => by
   have h2 := hBc.trans (h1.mono hBc.size)
   obtain ⟨e1, e2, e3⟩ := K _ h2
   exact ⟨h1, e1, e2, e3, cell_of_one (blk_below hz6 h1)⟩
  have HS4 := Lib.hid hS4
  have hd4 : Below w4.heap.size w4 w4.drew := below_drew (Below.refl _ _)
  have hS40 := hS4 _ hd4
  obtain ⟨_, c40, c41, c42, c43⟩ := hS4 w4 (Below.refl _ _)
  have hDA := fun (W : World) (hW : Below w4.heap.size w4 W) => divmod_calls A Ag ca cg x G ok3 W (IsN.below hNA3 hW) (IsN.below hNG3 hW) hx hG0 hGl
  have hDB := fun (W : World) (hW : Below w4.heap.size w4 W) => divmod_calls B Ag cb cg t G ok3 W (IsN.below hNB3 hW) (IsN.below hNG3 hW) ht hG0 hGl
  clear hS4 hGcd
  go_upto_region 4 with fail
  go_cut [7] (fun s7 wx => ∃ g7 Aq cq, s7 = .pointer (some ⟨g7, 0, none⟩) ∧ wx.heap[g7]? = some (.cells #[.slice Aq (lm (x / G)).length cq] 81 (0, 0)) ∧ IsN wx ok2 (.slice Aq (lm (x / G)).length cq) (x / G) ∧ w4.heap.size ≤ g7 ∧ Below w4.heap.size w4 wx)
  case first =>
   go_region_held3 (fun w' => Below w4.heap.size w4 w' ∧ w'.cell? ⟨w.heap.size, 0, none⟩ = some (.bool false) ∧ w'.cell? ⟨w.heap.size, 1, none⟩ = some (.slice A (lm x).length ca) ∧ w'.cell? ⟨w.heap.size + 1, 0, none⟩ = some (.slice B (lm t).length cb) ∧ w'.cell? ⟨g6, 0, none⟩ = some (.slice Ag (lm G).length cg))
    (first | with_reducible exact hS40 | with_reducible assumption | with_reducible exact HS4.out _ (below_drew (Below.alloc (Below.refl _ _) (Nat.le_refl _) _)) | with_reducible exact HS4.out _ (below_drew (below_aa _ _ _)) | exact HS4.out _ (below_s _ _ _ _ _ (by first | with_reducible assumption | exact And.left (by with_reducible assumption)) (by first | exact Nat.le_refl _ | exact Nat.le_succ _ | omega)) | exact HS4.out _ (below_sa _ _ hs6b (by first | exact Nat.le_refl _ | exact Nat.le_succ _ | omega) p6) | exact HS4.out _ (Below.alloc (Below.alloc hs6b p6 _) (by rw [size_a]; omega) _) | exact HS4.out _ (Below.alloc (by first | with_reducible assumption | exact And.left (by with_reducible assumption)) (Below.size (by first | with_reducible assumption | exact And.left (by with_reducible assumption))) _) | go_keep)
    (first
     | (go_at_call 107; refine (abs_calls _ _ _ _ _).mono ?_; rintro e w5 ⟨rfl, hb5⟩; have hs5b := Below.trans (by first | with_reducible assumption | exact And.left (by with_reducible assumption)) (Below.mono hb5 (Below.size (by first | with_reducible assumption | exact And.left (by with_reducible assumption)))); have hs5 := HS4.out _ hs5b; have p5 := hs5b.size)
     | (go_at_call 130; refine (hDA _ (by first | with_reducible assumption | exact And.left (by with_reducible assumption))).mono ?_; rintro e w6 ⟨q, r, rfl, hNq, hNr, hb6⟩; obtain ⟨Aq, cq, rfl⟩ := hNq.len; obtain ⟨Ar, cr, rfl⟩ := hNr.len; have hs6b := Below.trans (by first | with_reducible assumption | exact And.left (by with_reducible assumption)) (Below.mono hb6 (Below.size (by first | with_reducible assumption | exact And.left (by with_reducible assumption)))); have hs6 := HS4.out _ hs6b; have p6 := hs6b.size; (first | (have z1 : w6.heap[w4.heap.size]? = some (.cells #[.slice none 0 0] 81 (0, 0)) := (by (repeat (with_reducible first | exact new_at _ _ | refine blk_drew ?_ | refine blk_alloc ?_ _ | refine blk_below ?_ hb6 | refine blk_below ?_ hb5)); (first | done | fail)); obtain ⟨zc1, zf1, za1, zb1, zl1, zm1, zn1⟩ := box_facts z1) | skip); (first | (have z2 : w6.heap[w4.heap.size + 1]? = some (.cells #[.slice none 0 0] 81 (0, 0)) := (by (repeat (with_reducible first | exact new_two _ _ _ | refine blk_drew ?_ | refine blk_below ?_ hb6 | refine blk_below ?_ hb5)); (first | done | fail)); obtain ⟨zc2, zf2, za2, zb2, zl2, zm2, zn2⟩ := box_facts z2) | skip); (first | (have z3 : w6.heap[w5.heap.size]? = some (.cells #[.slice none 0 0] 81 (0, 0)) := (by (repeat (with_reducible first | exact new_at _ _ | refine blk_alloc ?_ _ | refine blk_below ?_ hb6)); (first | done | fail)); obtain ⟨zc3, zf3, za3, zb3, zl3, zm3, zn3⟩ := box_facts z3) | skip); (first | (have z4 : w6.heap[w5.heap.size + 1]? = some (.cells #[.slice none 0 0] 81 (0, 0)) := (by (repeat (with_reducible first | exact new_two _ _ _ | refine blk_below ?_ hb6)); (first | done | fail)); obtain ⟨zc4, zf4, za4, zb4, zl4, zm4, zn4⟩ := box_facts z4) | skip); have q5 := hb5.size; have q6 := hb6.size; (first | simp only [size_d, size_a] at q5 | skip); (first | simp only [size_d, size_a] at q6 | skip); (first | (have d1 : ¬ w4.heap.size = w5.heap.size := (by omega); have d2 : ¬ w5.heap.size = w4.heap.size := (by omega)) | skip); (first | (have d3 : ¬ w4.heap.size = w6.heap.size := (by omega); have d4 : ¬ w6.heap.size = w4.heap.size := (by omega)) | skip); (first | (have d5 : ¬ w5.heap.size = w6.heap.size := (by omega); have d6 : ¬ w6.heap.size = w5.heap.size := (by omega)) | skip)))
   all_goals
    go_wp2_with fail
    go_meet
    case rel =>
     refine ⟨_, Aq, cq, rfl, ?_, ?_, ?_, ?_⟩
     ·repeat (with_reducible first | exact new_at _ _ | exact new_two _ _ _ | exact new_s _ _ _ _ | refine blk_drew ?_ | refine put_nil ?_ _ | refine put_far ?_ _ (by omega) | refine blk_alloc ?_ _ | refine blk_below ?_ hb6 | refine blk_below ?_ hb5)
     ·obtain ⟨P, hP, hNq⟩ : ∃ P, P = _ ∧ IsN w6 (fun k => ok3 k ∨ P ≤ k) (.slice Aq (lm (x / G)).length cq) (x / G) := ⟨_, rfl, hNq⟩
      try simp only [size_a, size_d] at hP
      refine IsN.mono (ok := fun k => (ok3 k ∨ P ≤ k) ∧ k < w6.heap.size) ?_ ?_
      ·repeat (with_reducible first | exact IsN.bound hNq | refine IsN.alloc ?_ _ | refine IsN.put ?_ _ _ ?_)
       all_goals
        intro k hk
        obtain ⟨hk, hk2⟩ := hk
        rcases hk with hk | hk
        ·have := hok3l k hk; omega
        ·omega
      ·intro k hk
       obtain ⟨hk, hk2⟩ := hk
       rcases hk with hk | hk
       ·exact hok32 k hk
       ·rw [hok2]; right; omega
     ·omega
     ·repeat (with_reducible first | exact hs6b | refine Below.alloc ?_ ?_ _ | refine below_s _ _ _ _ _ ?_ ?_)
      all_goals
       (try simp only [size_a, size_s])
       omega
  case rest =>
   rename World => w7
   obtain ⟨g7, Aq, cq, rfl, hz7, hN7, hg7, hBd⟩ := hcut
   have hBe : Below W0.heap.size W0 w7 := hBc.trans (hBd.mono hBc.size)
   have hz67 : w7.heap[g6]? = some (.cells #[.slice Ag (lm G).length cg] 81 (0, 0)) := blk_below hz6 hBd
   obtain ⟨e1, e2, e3⟩ := K _ hBe
   have hT4 : ∀ W, Below w7.heap.size w7 W → Below w7.heap.size w7 W ∧ W.cell? ⟨w.heap.size + 1, 0, none⟩ = some (.slice B (lm t).length cb) ∧ W.cell? ⟨g6, 0, none⟩ = some (.slice Ag (lm G).length cg) := fun W h1 => by
    have h2 := hBe.trans (h1.mono hBe.size)
    obtain ⟨_, _, f3⟩ := K _ h2
    exact ⟨h1, f3, cell_of_one (blk_below hz67 h1)⟩
   have HT4 := Lib.hid hT4
   have hT40 := hT4 _ (below_drew (Below.refl _ _))
   obtain ⟨_, c52, c53⟩ := hT4 w7 (Below.refl _ _)
   have p47 : w4.heap.size ≤ w7.heap.size := hBd.size
   have hDC := fun (W : World) (hW : Below w7.heap.size w7 W) => hDB W (hBd.trans (hW.mono hBd.size))
   clear hT4 hDA hDB HS4 hS40 c40 c41 c42 c43
   go_wp2_with (go_at_call 130; go_must (refine (hDC _ (by first | exact Below.refl _ _ | exact below_drew (Below.refl _ _))).mono ?_; rintro e w8 ⟨q, r, rfl, hNq, hNr, hb8⟩; obtain ⟨Av, cv, rfl⟩ := hNq.len; obtain ⟨Ar, cr, rfl⟩ := hNr.len; obtain ⟨_, c84, c85⟩ := HT4.out _ hb8))
   obtain ⟨W9, hW9⟩ : ∃ W9, (w8.alloc (.cells #[.slice Av (lm (t / G)).length cv] 81)).alloc (.cells #[.slice Ar (lm (t % G)).length cr] 81) = W9 := ⟨_, rfl⟩
   have b89 := below_aa w8 (.cells #[.slice Av (lm (t / G)).length cv] 81) (.cells #[.slice Ar (lm (t % G)).length cr] 81)
   have hv9 : ((w8.alloc (.cells #[.slice Av (lm (t / G)).length cv] 81)).alloc (.cells #[.slice Ar (lm (t % G)).length cr] 81)).heap[w8.heap.size]? = some (.cells #[.slice Av (lm (t / G)).length cv] 81 (0, 0)) := blk_alloc (new_at _ _) _
   rw [hW9] at b89 hv9 ⊢
   have h79 : Below w7.heap.size w7 W9 := hb8.trans (b89.mono hb8.size)
   have h09 : Below W0.heap.size W0 W9 := hBe.trans (h79.mono hBe.size)
   have hq9 : IsN W9 ok2 (.slice Aq (lm (x / G)).length cq) (x / G) := IsN.below hN7 h79
   have p78 : w7.heap.size ≤ w8.heap.size := hb8.size
   have hv92 : IsN W9 ok2 (.slice Av (lm (t / G)).length cv) (t / G) := IsN.mono (IsN.below hNq b89) (fun k hk => by
    rcases hk with hk | hk
    ·exact hok32 k hk
    ·rw [hok2]; right; omega)
   have hz79 := blk_below hz7 h79
   obtain ⟨m1, m2, m3⟩ := K _ h09
   have hdx : x / G < 18446744073709551616 := div_lt_u x G hx
   have hdt : t / G < 18446744073709551616 := div_lt_u t G ht
   have hx1 : 0 < x / G := by rw [← hG]; exact Nat.div_pos (Nat.le_of_dvd (Nat.pos_of_ne_zero hx0) (Nat.gcd_dvd_left x t)) (hG ▸ hG0)
   have ht1 : 0 < t / G := by rw [← hG]; exact Nat.div_pos (Nat.le_of_dvd ht0 (Nat.gcd_dvd_right x t)) (hG ▸ hG0)
   have l1 : (lm (x / G)).length = 1 := by rw [lm_one _ (by omega) hdx]; rfl
   have l2 : (lm (t / G)).length = 1 := by rw [lm_one _ (by omega) hdt]; rfl
   have hLX := fun (W : World) (hW : Below W9.heap.size W9 W) => limbs_calls Aq cq (x / G) W (Kd.F_now (IsN.below hq9 hW).F.2) (IsN.below hq9 hW).F.1 hdx
   have hLT := fun (W : World) (hW : Below W9.heap.size W9 W) => limbs_calls Av cv (t / G) W (Kd.F_now (IsN.below hv92 hW).F.2) (IsN.below hv92 hW).F.1 hdt
   rw [l1] at hLX
   rw [l2] at hLT
   rw [l1] at hz79 hq9
   rw [l2] at hv9 hv92
   have hS9 : ∀ W, Below W9.heap.size W9 W → Below W9.heap.size W9 W ∧ W.cell? ⟨w.heap.size, 0, none⟩ = some (.bool false) ∧ W.cell? ⟨w.heap.size, 1, none⟩ = some (.slice A (lm x).length ca) ∧ W.cell? ⟨g7, 0, none⟩ = some (.slice Aq 1 cq) ∧ W.cell? ⟨w8.heap.size, 0, none⟩ = some (.slice Av 1 cv) := fun W h1 => by
    have h2 := h09.trans (h1.mono h09.size)
    obtain ⟨f1, f2, _⟩ := K _ h2
    exact ⟨h1, f1, f2, cell_of_one (blk_below hz79 h1), cell_of_one (blk_below hv9 h1)⟩
   have HS9 := Lib.hid hS9
   have hS90 := hS9 _ (below_drew (Below.refl _ _))
   obtain ⟨_, n1, n2, n3, n4⟩ := hS9 _ (Below.refl _ _)
   have HK0 := Lib.hid K
   clear hS9 K hDC HT4 hT40 c52 c53 c84 c85 hNG3 hNA3 hNB3 hz67 hz6 hN7 hNq hNr
   go_upto_region 6 with fail
   go_region_held3 (fun w' => Below W9.heap.size W9 w' ∧ w'.cell? ⟨w.heap.size, 0, none⟩ = some (.bool false) ∧ w'.cell? ⟨w.heap.size, 1, none⟩ = some (.slice A (lm x).length ca) ∧ w'.cell? ⟨g7, 0, none⟩ = some (.slice Aq 1 cq) ∧ w'.cell? ⟨w8.heap.size, 0, none⟩ = some (.slice Av 1 cv))
    (first | with_reducible exact hS90 | with_reducible assumption | go_keep)
    (first
     | (go_at_call 131; refine (hLX _ (by first | with_reducible assumption | exact And.left (by with_reducible assumption))).mono ?_; rintro e w10 ⟨rfl, hb10⟩; have hs10b := Below.trans (by first | with_reducible assumption | exact And.left (by with_reducible assumption)) (Below.mono hb10 (Below.size (by first | with_reducible assumption | exact And.left (by with_reducible assumption)))); have hs10 := HS9.out _ hs10b)
     | (go_at_call 131; refine (hLT _ (by first | with_reducible assumption | exact And.left (by with_reducible assumption))).mono ?_; rintro e w11 ⟨rfl, hb11⟩; have hs11b := Below.trans (by first | with_reducible assumption | exact And.left (by with_reducible assumption)) (Below.mono hb11 (Below.size (by first | with_reducible assumption | exact And.left (by with_reducible assumption)))); have hs11 := HS9.out _ hs11b))
   go_wp2_with fail
   have hNW := fun (W : World) => wnew_calls Aq 1 cq W
   have hSg := fun (W : World) => hS W
   have zr9 : W9.heap[w.heap.size + 1 + 1]? = some (.cells #[.bool false, .slice none 0 0, .slice none 0 0] 85 (0, 0)) := blk_below k3 h09
   have HZ : Hid (∀ W, Below W9.heap.size W9 W → (W.cell? ⟨w.heap.size + 1 + 1, 0, none⟩ = some (.bool false) ∧ W.cell? ⟨w.heap.size + 1 + 1, 1, none⟩ = some (.slice none 0 0) ∧ W.cell? ⟨w.heap.size + 1 + 1, 2, none⟩ = some (.slice none 0 0)) ∧ W.frozen? ⟨w.heap.size + 1 + 1, 0, none⟩ = false ∧ W.frozen? ⟨w.heap.size + 1 + 1, 1, none⟩ = false ∧ W.frozen? ⟨w.heap.size + 1 + 1, 2, none⟩ = false) := Lib.hid fun W h1 => by
    have e := blk_below zr9 h1
    exact ⟨⟨(Joins.cell_of_block e 0).trans rfl, (Joins.cell_of_block e 1).trans rfl, (Joins.cell_of_block e 2).trans rfl⟩, Joins.unfrozen_of_block e 0, Joins.unfrozen_of_block e 1, Joins.unfrozen_of_block e 2⟩
   have y1 : ¬ g7 = w.heap.size + 1 + 1 := by have := hBc.size; omega
   have y2 : ¬ w8.heap.size = w.heap.size + 1 + 1 := by have := hBc.size; omega
   have y3 : ¬ w.heap.size + 1 + 1 = g7 := fun h => y1 h.symm
   have y4 : ¬ w.heap.size + 1 + 1 = w8.heap.size := fun h => y2 h.symm
   have k19 : W9.heap[w.heap.size]? = some (.cells #[.bool false, .slice A (lm x).length ca] 83 (0, 0)) := blk_below k1 h09
   have HSP : Hid (∀ (W : World) (u1 u2 u3 : Value), Below W9.heap.size W9 W → (((W.setCell ⟨w.heap.size + 1 + 1, 0, none⟩ u1).setCell ⟨w.heap.size + 1 + 1, 1, none⟩ u2).setCell ⟨w.heap.size + 1 + 1, 2, none⟩ u3).cell? ⟨w.heap.size, 0, none⟩ = some (.bool false) ∧ (((W.setCell ⟨w.heap.size + 1 + 1, 0, none⟩ u1).setCell ⟨w.heap.size + 1 + 1, 1, none⟩ u2).setCell ⟨w.heap.size + 1 + 1, 2, none⟩ u3).cell? ⟨w.heap.size, 1, none⟩ = some (.slice A (lm x).length ca) ∧ (((W.setCell ⟨w.heap.size + 1 + 1, 0, none⟩ u1).setCell ⟨w.heap.size + 1 + 1, 1, none⟩ u2).setCell ⟨w.heap.size + 1 + 1, 2, none⟩ u3).cell? ⟨g7, 0, none⟩ = some (.slice Aq 1 cq) ∧ (((W.setCell ⟨w.heap.size + 1 + 1, 0, none⟩ u1).setCell ⟨w.heap.size + 1 + 1, 1, none⟩ u2).setCell ⟨w.heap.size + 1 + 1, 2, none⟩ u3).cell? ⟨w8.heap.size, 0, none⟩ = some (.slice Av 1 cv)) := Lib.hid fun W u1 u2 u3 h1 => by
    have e1 := blk_far (blk_far (blk_far (blk_below k19 h1) (p := ⟨w.heap.size + 1 + 1, 0, none⟩) (by show w.heap.size ≠ w.heap.size + 1 + 1; omega) u1) (p := ⟨w.heap.size + 1 + 1, 1, none⟩) (by show w.heap.size ≠ w.heap.size + 1 + 1; omega) u2) (p := ⟨w.heap.size + 1 + 1, 2, none⟩) (by show w.heap.size ≠ w.heap.size + 1 + 1; omega) u3
    have e2 := blk_far (blk_far (blk_far (blk_below hz79 h1) (p := ⟨w.heap.size + 1 + 1, 0, none⟩) y1 u1) (p := ⟨w.heap.size + 1 + 1, 1, none⟩) y1 u2) (p := ⟨w.heap.size + 1 + 1, 2, none⟩) y1 u3
    have e3 := blk_far (blk_far (blk_far (blk_below hv9 h1) (p := ⟨w.heap.size + 1 + 1, 0, none⟩) y2 u1) (p := ⟨w.heap.size + 1 + 1, 1, none⟩) y2 u2) (p := ⟨w.heap.size + 1 + 1, 2, none⟩) y2 u3
    exact ⟨(blk_cell e1 0).trans rfl, (blk_cell e1 1).trans rfl, cell_of_one e2, cell_of_one e3⟩
   have hd11 : Below W9.heap.size W9 w11.drew := below_drew hs11b
   obtain ⟨_, v1, v2, v3, v4⟩ := HS9.out _ hd11
   have hV := And.intro v1 (And.intro v2 (And.intro v3 v4))
   obtain ⟨_, o1, o2, o3, o4⟩ := hs11
   go_region_held3 (fun w' => w'.cell? ⟨w.heap.size, 0, none⟩ = some (.bool false) ∧ w'.cell? ⟨w.heap.size, 1, none⟩ = some (.slice A (lm x).length ca) ∧ w'.cell? ⟨g7, 0, none⟩ = some (.slice Aq 1 cq) ∧ w'.cell? ⟨w8.heap.size, 0, none⟩ = some (.slice Av 1 cv))
    (first | with_reducible exact hV | with_reducible assumption | exact (HS9.out _ (by with_reducible assumption)).2 | with_reducible exact HSP.out _ _ _ _ (by with_reducible assumption) | go_keep)
    (first
     | (go_at_call 104; refine (hSg _).mono ?_; rintro e w12 ⟨rfl, hb12⟩; have hs12b := Below.trans hd11 (Below.mono hb12 (Below.size hd11)))
     | (go_at_call 108; refine (hNW _).mono ?_; rintro e w13 ⟨rfl, hb13⟩; have hs13b := Below.trans hs12b (Below.mono hb13 (Below.size hs12b)); obtain ⟨⟨t1, t2, t3⟩, t4, t5, t6⟩ := HZ.out _ hs13b))
   go_wp2_with fail
   have zr13 := blk_below zr9 hs13b
   refine bodyPost_ret (results_list (rs := [.cell 4 85, .tmp 5]) rfl (by simp) (.cell (w.heap.size + 1 + 1) 85 #[.bool false, .slice Aq 1 cq, .slice Av 1 cv] (0, 0) _ rfl ((blk_set (blk_set (blk_set zr13 0 _) 1 _) 2 _).trans rfl) Tryz.underlying85 rfl (by kernel_rfl) (.tmp .nil))) rfl ?_
   have hB13 : Below w.heap.size w w13 := b3.trans ((h09.trans (hs13b.mono h09.size)).mono b3.size)
   have hokr : ∀ k, ok2 k → k ≠ w.heap.size + 1 + 1 := fun k hk => by
    rw [hok2] at hk
    rcases hk with hk | hk
    ·have := hok k hk; omega
    ·omega
   have hfin : ∀ k, ok2 k → ok k ∨ w.heap.size ≤ k := fun k hk => by
    rw [hok2] at hk
    exact hk.imp id fun h => by omega
   rw [l1, l2]
   refine ⟨_, _, _, _, rfl, IsN.mono (IsN.far (IsN.far (IsN.far (IsN.below hq9 hs13b) hokr _) hokr _) hokr _) hfin, IsN.mono (IsN.far (IsN.far (IsN.far (IsN.below hv92 hs13b) hokr _) hokr _) hokr _) hfin, ((hB13.setCell (by show w.heap.size ≤ w.heap.size + 1 + 1; omega) _).setCell (by show w.heap.size ≤ w.heap.size + 1 + 1; omega) _).setCell (by show w.heap.size ≤ w.heap.size + 1 + 1; omega) _⟩
def rden (x t : Nat) : Nat := if x = 0 then 0 else t / Nat.gcd x t
set_option maxHeartbeats 2000000 in
set_option maxRecDepth 100000 in
theorem lowest0_calls (A B : Option Addr) (ca cb m : Nat) (w : World) :
  Calls Tryz.prog 106 #[.agg #[.bool false, .slice A 0 ca], .agg #[.slice B m cb]] w fun e w' => e = .returned (.tuple #[.agg #[.bool false, .slice none 0 0, .slice none 0 0], .int .i64 0]) ∧ Below w.heap.size w w' := by
 obtain ⟨s3, k1, k2, k3⟩ := three_at w (.cells #[.bool false, .slice A 0 ca] 83) (.cells #[.slice B m cb] 81) (.cells #[.bool false, .slice none 0 0, .slice none 0 0] 85)
 have b3 := below_3 w (.cells #[.bool false, .slice A 0 ca] 83) (.cells #[.slice B m cb] 81) (.cells #[.bool false, .slice none 0 0, .slice none 0 0] 85)
 have hS := fun W => sign_calls A 0 ca W
 simp only [if_pos] at hS
 go_enter Tryz.func106, Tryz.ntmps106
 go_wp2_with (go_at_call 104; go_must (refine (hS _).mono ?_; rintro e w1 ⟨rfl, hb1⟩; have e := blk_below k3 hb1; have m0 := (Joins.cell_of_block e 0).trans rfl; have m1 := (Joins.cell_of_block e 1).trans rfl; have m2 := (Joins.cell_of_block e 2).trans rfl; have n0 := Joins.unfrozen_of_block e 0; have n1 := Joins.unfrozen_of_block e 1; have n2 := Joins.unfrozen_of_block e 2))
 refine bodyPost_ret (results_list (rs := [.cell 4 85, .tmp 5]) rfl (by simp) (.cell (w.heap.size + 1 + 1) 85 #[.bool false, .slice none 0 0, .slice none 0 0] (0, 0) _ rfl ((blk_set (blk_set (blk_set (blk_below k3 hb1) 0 _) 1 _) 2 _).trans rfl) Tryz.underlying85 rfl (by kernel_rfl) (.tmp .nil))) rfl ?_
 have hB13 : Below w.heap.size w w1 := b3.trans (hb1.mono b3.size)
 exact ⟨rfl, ((hB13.setCell (by show w.heap.size ≤ w.heap.size + 1 + 1; omega) _).setCell (by show w.heap.size ≤ w.heap.size + 1 + 1; omega) _).setCell (by show w.heap.size ≤ w.heap.size + 1 + 1; omega) _⟩
theorem put3 {W : World} {r g t : Nat} {cs : Array Value} (h : W.heap[g]? = some (.cells cs t (0, 0))) (hne : g ≠ r) (u1 u2 u3 : Value) : (((W.setCell ⟨r, 0, none⟩ u1).setCell ⟨r, 1, none⟩ u2).setCell ⟨r, 2, none⟩ u3).heap[g]? = some (.cells cs t (0, 0)) :=
 blk_far (blk_far (blk_far h (p := ⟨r, 0, none⟩) hne u1) (p := ⟨r, 1, none⟩) hne u2) (p := ⟨r, 2, none⟩) hne u3
theorem put3_self {W : World} {r t : Nat} {a b c : Value} (h : W.heap[r]? = some (.cells #[a, b, c] t (0, 0))) (u1 u2 u3 : Value) : (((W.setCell ⟨r, 0, none⟩ u1).setCell ⟨r, 1, none⟩ u2).setCell ⟨r, 2, none⟩ u3).heap[r]? = some (.cells #[u1, u2, u3] t (0, 0)) :=
 (blk_set (blk_set (blk_set h 0 u1) 1 u2) 2 u3).trans rfl
theorem put3_below {B : Nat} {a W : World} {r : Nat} (h : Below B a W) (hr : B ≤ r) (u1 u2 u3 : Value) : Below B a (((W.setCell ⟨r, 0, none⟩ u1).setCell ⟨r, 1, none⟩ u2).setCell ⟨r, 2, none⟩ u3) :=
 ((h.setCell (p := ⟨r, 0, none⟩) hr u1).setCell (p := ⟨r, 1, none⟩) hr u2).setCell (p := ⟨r, 2, none⟩) hr u3
theorem IsN.put3 {W : World} {ok : Nat → Prop} {v : Value} {n r : Nat} (h : IsN W ok v n) (hk : ∀ k, ok k → k ≠ r) (u1 u2 u3 : Value) : IsN (((W.setCell ⟨r, 0, none⟩ u1).setCell ⟨r, 1, none⟩ u2).setCell ⟨r, 2, none⟩ u3) ok v n :=
 IsN.far (IsN.far (IsN.far h (p := ⟨r, 0, none⟩) hk u1) (p := ⟨r, 1, none⟩) hk u2) (p := ⟨r, 2, none⟩) hk u3
theorem three_cells {W : World} {r t : Nat} {a b c : Value} (e : W.heap[r]? = some (.cells #[a, b, c] t (0, 0))) : (W.cell? ⟨r, 0, none⟩ = some a ∧ W.cell? ⟨r, 1, none⟩ = some b ∧ W.cell? ⟨r, 2, none⟩ = some c) ∧ W.frozen? ⟨r, 0, none⟩ = false ∧ W.frozen? ⟨r, 1, none⟩ = false ∧ W.frozen? ⟨r, 2, none⟩ = false :=
 ⟨⟨(Joins.cell_of_block e 0).trans rfl, (Joins.cell_of_block e 1).trans rfl, (Joins.cell_of_block e 2).trans rfl⟩, Joins.unfrozen_of_block e 0, Joins.unfrozen_of_block e 1, Joins.unfrozen_of_block e 2⟩
theorem lowest_all (A B : Option Addr) (ca cb x t : Nat) (ok : Nat → Prop) (w : World) (hok : ∀ k, ok k → k < w.heap.size) (hA : IsN w ok (.slice A (lm x).length ca) x) (hB : IsN w ok (.slice B (lm t).length cb) t) (ht0 : 0 < t) (hx : x < 18446744073709551616) (ht : t < 18446744073709551616) :
  Calls Tryz.prog 106 #[.agg #[.bool false, .slice A (lm x).length ca], .agg #[.slice B (lm t).length cb]] w fun e w' => ∃ An cn Ad cd, e = .returned (.tuple #[.agg #[.bool false, .slice An (lm (x / Nat.gcd x t)).length cn, .slice Ad (lm (rden x t)).length cd], .int .i64 0]) ∧ IsN w' (fun k => ok k ∨ w.heap.size ≤ k) (.slice An (lm (x / Nat.gcd x t)).length cn) (x / Nat.gcd x t) ∧ IsN w' (fun k => ok k ∨ w.heap.size ≤ k) (.slice Ad (lm (rden x t)).length cd) (rden x t) ∧ Below w.heap.size w w' := by
 by_cases h0 : x = 0
 ·subst h0
  have e1 : 0 / Nat.gcd 0 t = 0 := Nat.zero_div _
  have e2 : rden 0 t = 0 := if_pos rfl
  rw [e1, e2, lm_zero]
  refine (lowest0_calls A B ca cb _ w).mono ?_
  rintro e w' ⟨rfl, hb⟩
  exact ⟨none, 0, none, 0, rfl, IsN.nil _ _, IsN.nil _ _, hb⟩
 ·have e2 : rden x t = t / Nat.gcd x t := if_neg h0
  rw [e2]
  exact lowest_calls A B ca cb x t ok w hok hA hB h0 ht0 hx ht
set_option maxHeartbeats 2000000 in
set_option maxRecDepth 100000 in
theorem new_calls (A B : Option Addr) (ca cb x t : Nat) (ok : Nat → Prop) (w : World) (hok : ∀ k, ok k → k < w.heap.size) (hA : IsN w ok (.slice A (lm x).length ca) x) (hB : IsN w ok (.slice B (lm t).length cb) t) (ht0 : 0 < t) (hx : x < 18446744073709551616) (ht : t < 18446744073709551616) :
  Calls Tryz.prog 73 #[.agg #[.bool false, .slice A (lm x).length ca], .agg #[.bool false, .slice B (lm t).length cb]] w fun e w' => ∃ An cn Ad cd, e = .returned (.tuple #[.agg #[.bool false, .slice An (lm (x / Nat.gcd x t)).length cn, .slice Ad (lm (rden x t)).length cd], .int .i64 0]) ∧ IsN w' (fun k => ok k ∨ w.heap.size ≤ k) (.slice An (lm (x / Nat.gcd x t)).length cn) (x / Nat.gcd x t) ∧ IsN w' (fun k => ok k ∨ w.heap.size ≤ k) (.slice Ad (lm (rden x t)).length cd) (rden x t) ∧ Below w.heap.size w w' := by
 obtain ⟨s3, k1, k2, k3⟩ := three_at w (.cells #[.bool false, .slice A (lm x).length ca] 83) (.cells #[.bool false, .slice B (lm t).length cb] 83) (.cells #[.bool false, .slice none 0 0, .slice none 0 0] 85)
 have b3 := below_3 w (.cells #[.bool false, .slice A (lm x).length ca] 83) (.cells #[.bool false, .slice B (lm t).length cb] 83) (.cells #[.bool false, .slice none 0 0, .slice none 0 0] 85)
 have hlt : ((lm t).length) ≠ 0 := fun h => by have := (lm_len0 t).1 h; omega
 have hS := fun W => sign_calls B (lm t).length cb W
 simp only [if_neg hlt] at hS
 obtain ⟨W0, hW0⟩ : ∃ W0, ((w.alloc (.cells #[.bool false, .slice A (lm x).length ca] 83)).alloc (.cells #[.bool false, .slice B (lm t).length cb] 83)).alloc (.cells #[.bool false, .slice none 0 0, .slice none 0 0] 85) = W0 := ⟨_, rfl⟩
 rw [hW0] at s3 k1 k2 k3 b3
 have K : ∀ W', Below W0.heap.size W0 W' → W'.cell? ⟨w.heap.size, 0, none⟩ = some (.bool false) ∧ W'.cell? ⟨w.heap.size, 1, none⟩ = some (.slice A (lm x).length ca) ∧ W'.cell? ⟨w.heap.size + 1, 0, none⟩ = some (.bool false) ∧ W'.cell? ⟨w.heap.size + 1, 1, none⟩ = some (.slice B (lm t).length cb) := fun W' hb =>
  ⟨(blk_cell (blk_below k1 hb) 0).trans rfl, (blk_cell (blk_below k1 hb) 1).trans rfl, (blk_cell (blk_below k2 hb) 0).trans rfl, (blk_cell (blk_below k2 hb) 1).trans rfl⟩
 have HKK := Lib.hid K
 have HSP : Hid (∀ (W : World) (u1 u2 u3 : Value), Below W0.heap.size W0 W → (((W.setCell ⟨w.heap.size + 1 + 1, 0, none⟩ u1).setCell ⟨w.heap.size + 1 + 1, 1, none⟩ u2).setCell ⟨w.heap.size + 1 + 1, 2, none⟩ u3).cell? ⟨w.heap.size, 0, none⟩ = some (.bool false) ∧ (((W.setCell ⟨w.heap.size + 1 + 1, 0, none⟩ u1).setCell ⟨w.heap.size + 1 + 1, 1, none⟩ u2).setCell ⟨w.heap.size + 1 + 1, 2, none⟩ u3).cell? ⟨w.heap.size, 1, none⟩ = some (.slice A (lm x).length ca) ∧ (((W.setCell ⟨w.heap.size + 1 + 1, 0, none⟩ u1).setCell ⟨w.heap.size + 1 + 1, 1, none⟩ u2).setCell ⟨w.heap.size + 1 + 1, 2, none⟩ u3).cell? ⟨w.heap.size + 1, 0, none⟩ = some (.bool false) ∧ (((W.setCell ⟨w.heap.size + 1 + 1, 0, none⟩ u1).setCell ⟨w.heap.size + 1 + 1, 1, none⟩ u2).setCell ⟨w.heap.size + 1 + 1, 2, none⟩ u3).cell? ⟨w.heap.size + 1, 1, none⟩ = some (.slice B (lm t).length cb)) := Lib.hid fun W u1 u2 u3 h1 => by
  have e1 := put3 (r := w.heap.size + 1 + 1) (blk_below k1 h1) (by omega) u1 u2 u3
  have e2 := put3 (r := w.heap.size + 1 + 1) (blk_below k2 h1) (by omega) u1 u2 u3
  exact ⟨(blk_cell e1 0).trans rfl, (blk_cell e1 1).trans rfl, (blk_cell e2 0).trans rfl, (blk_cell e2 1).trans rfl⟩
 have hLow := fun (W : World) (hW : Below W0.heap.size W0 W) => lowest_all A B ca cb x t ok W (fun k hk => Nat.lt_of_lt_of_le (hok k hk) (Nat.le_trans b3.size hW.size)) (IsN.below (IsN.below hA b3) hW) (IsN.below (IsN.below hB b3) hW) ht0 hx ht
 obtain ⟨q1, hq1⟩ : ∃ q, x / Nat.gcd x t = q := ⟨_, rfl⟩
 obtain ⟨q2, hq2⟩ : ∃ q, rden x t = q := ⟨_, rfl⟩
 rw [hq1, hq2] at hLow ⊢
 obtain ⟨c00, c01, c02, c03⟩ := K W0 (Below.refl _ _)
 go_enter Tryz.func73, Tryz.ntmps73
 go_wp2_with (go_at_call 104; go_must (refine (hS _).mono ?_; rintro e w1 ⟨rfl, hb1⟩; obtain ⟨c1, c2, c3, c4⟩ := K _ hb1))
 have hb1d := below_drew hb1
 have hV := K _ hb1d
 clear K
 go_region_held3 (fun w' => w'.cell? ⟨w.heap.size, 0, none⟩ = some (.bool false) ∧ w'.cell? ⟨w.heap.size, 1, none⟩ = some (.slice A (lm x).length ca) ∧ w'.cell? ⟨w.heap.size + 1, 0, none⟩ = some (.bool false) ∧ w'.cell? ⟨w.heap.size + 1, 1, none⟩ = some (.slice B (lm t).length cb))
  (first | with_reducible exact hV | with_reducible assumption | exact HKK.out _ (by with_reducible assumption) | with_reducible exact HSP.out _ _ _ _ (by with_reducible assumption) | go_keep)
  (first
   | (go_at_call 107; refine (abs_calls _ _ _ _ _).mono ?_; rintro e w2 ⟨rfl, hb2⟩; have hs2 := Below.trans hb1d (Below.mono hb2 (Below.size hb1d)))
   | (go_at_call 106; refine (hLow _ hs2).mono ?_; rintro e w3 ⟨An, cn, Ad, cd, rfl, hN1, hN2, hb3⟩; have hs3 := Below.trans hs2 (Below.mono hb3 (Below.size hs2)); have zr := blk_below k3 hs3; obtain ⟨⟨t1, t2, t3⟩, t4, t5, t6⟩ := three_cells zr))
 go_wp2_with fail
 refine bodyPost_ret (results_list (rs := [.cell 4 85, .tmp 5]) rfl (by simp) (.cell (w.heap.size + 1 + 1) 85 #[.bool false, .slice An (lm q1).length cn, .slice Ad (lm q2).length cd] (0, 0) _ rfl (put3_self zr _ _ _) Tryz.underlying85 rfl (by kernel_rfl) (.tmp .nil))) rfl ?_
 have p2 := hs2.size
 have hne : ∀ k, (ok k ∨ w2.heap.size ≤ k) → k ≠ w.heap.size + 1 + 1 := fun k hk => by
  rcases hk with hk | hk
  ·have := hok k hk; omega
  ·omega
 have hfin : ∀ k, (ok k ∨ w2.heap.size ≤ k) → ok k ∨ w.heap.size ≤ k := fun k hk => hk.imp id fun h => by omega
 exact ⟨_, _, _, _, rfl, IsN.mono (IsN.put3 hN1 hne _ _ _) hfin, IsN.mono (IsN.put3 hN2 hne _ _ _) hfin, put3_below (b3.trans (hs3.mono b3.size)) (by omega) _ _ _⟩
set_option maxHeartbeats 2000000 in
set_option maxRecDepth 100000 in
theorem rsmall_calls (x t : Nat) (hx : x < 9223372036854775808) (ht : t < 9223372036854775808) (ht0 : 0 < t) (w : World) :
  Calls Tryz.prog 50 #[.int .i64 (x : Int), .int .i64 (t : Int)] w fun e w' => ∃ An cn Ad cd, e = .returned (.tuple #[.agg #[.bool false, .slice An (lm (x / Nat.gcd x t)).length cn, .slice Ad (lm (rden x t)).length cd], .int .i64 0]) ∧ IsN w' (fun k => w.heap.size ≤ k) (.slice An (lm (x / Nat.gcd x t)).length cn) (x / Nat.gcd x t) ∧ IsN w' (fun k => w.heap.size ≤ k) (.slice Ad (lm (rden x t)).length cd) (rden x t) ∧ Below w.heap.size w w' := by
 have hX := fun W => wsmall_calls x hx W
 have hT := fun W => wsmall_calls t ht W
 have hNew := fun (W w3 : World) (A B : Option Addr) (ca cb : Nat) (h1 : w.heap.size ≤ W.heap.size) (hA : IsN w3 (fun k => w.heap.size < k ∧ k < w3.heap.size) (.slice A (lm x).length ca) x) (hB : IsN w3 (fun k => w.heap.size < k ∧ k < w3.heap.size) (.slice B (lm t).length cb) t) => new_calls A B ca cb x t (fun k => w.heap.size < k ∧ k < w3.heap.size) w3 (fun k hk => hk.2) hA hB ht0 (by omega) (by omega)
 obtain ⟨q1, hq1⟩ : ∃ q, x / Nat.gcd x t = q := ⟨_, rfl⟩
 obtain ⟨q2, hq2⟩ : ∃ q, rden x t = q := ⟨_, rfl⟩
 rw [hq1, hq2] at hNew ⊢
 have k0 := new_at w (.cells #[.bool false, .slice none 0 0, .slice none 0 0] 85)
 have b0 : Below w.heap.size w (w.alloc (.cells #[.bool false, .slice none 0 0, .slice none 0 0] 85)) := (Below.refl _ _).alloc (Nat.le_refl _) _
 have s0 := size_a w (.cells #[.bool false, .slice none 0 0, .slice none 0 0] 85)
 go_enter Tryz.func50, Tryz.ntmps50
 go_wp2_with (first
  | (go_at_call 74; (with_reducible refine (hX _).mono ?_); rintro e w1 ⟨v1, rfl, hN1, hb1⟩; obtain ⟨A1, c1, rfl⟩ := hN1.len; have p1 := hb1.size; have e1 := blk_below k0 hb1; have hB1 := b0.trans (hb1.mono b0.size))
  | (go_at_call 74; (with_reducible refine (hT _).mono ?_); rintro e w2 ⟨v2, rfl, hN2, hb2⟩; obtain ⟨A2, c2, rfl⟩ := hN2.len; have p2 := hb2.size; have e2 := blk_below e1 hb2; have hB2 := hB1.trans (hb2.mono hB1.size))
  | (go_at_call 73; go_must (refine (hNew w2 w2 A1 A2 c1 c2 (by omega) (IsN.mono (IsN.bound (IsN.below hN1 hb2)) (fun k hk => ⟨by have := hk.1; omega, hk.2⟩)) (IsN.mono (IsN.bound hN2) (fun k hk => ⟨by have := hk.1; omega, hk.2⟩))).mono ?_; rintro e w3 ⟨An, cn, Ad, cd, rfl, hM1, hM2, hb3⟩; have zr := blk_below e2 hb3; obtain ⟨⟨t1, t2, t3⟩, t4, t5, t6⟩ := three_cells zr)))
 refine bodyPost_ret (results_list (rs := [.cell 4 85, .tmp 5]) rfl (by simp) (.cell w.heap.size 85 #[.bool false, .slice An (lm q1).length cn, .slice Ad (lm q2).length cd] (0, 0) _ rfl (put3_self zr _ _ _) Tryz.underlying85 rfl (by kernel_rfl) (.tmp .nil))) rfl ?_
 have hne : ∀ k, ((w.heap.size < k ∧ k < w2.heap.size) ∨ w2.heap.size ≤ k) → k ≠ w.heap.size := fun k hk => by omega
 have hfin : ∀ k, ((w.heap.size < k ∧ k < w2.heap.size) ∨ w2.heap.size ≤ k) → w.heap.size ≤ k := fun k hk => by omega
 exact ⟨_, _, _, _, rfl, IsN.mono (IsN.put3 hM1 hne _ _ _) hfin, IsN.mono (IsN.put3 hM2 hne _ _ _) hfin, put3_below (hB2.trans (hb3.mono hB2.size)) (by omega) _ _ _⟩
set_option maxHeartbeats 2000000 in
set_option maxRecDepth 100000 in
theorem ten_calls (n : Nat) (hn : n ≤ 9) (w : World) :
  Calls Tryz.prog 75 #[.int .i64 (n : Int)] w fun e w' => e = .returned (.int .i64 ((10 ^ n : Nat) : Int)) ∧ Below w.heap.size w w' := by
 have h : n = 0 ∨ n = 1 ∨ n = 2 ∨ n = 3 ∨ n = 4 ∨ n = 5 ∨ n = 6 ∨ n = 7 ∨ n = 8 ∨ n = 9 := by omega
 rcases h with rfl | rfl | rfl | rfl | rfl | rfl | rfl | rfl | rfl | rfl
 all_goals
  go_enter Tryz.func75, Tryz.ntmps75
  go_wp2
  go_ret
  exact ⟨rfl, (Below.refl _ _).alloc (Nat.le_refl _) _⟩
set_option maxHeartbeats 2000000 in
set_option maxRecDepth 100000 in
theorem drat_calls (u p : Nat) (hu : u < 9223372036854775808) (hp : p ≤ 9) (w : World) (hC : ∀ W, Calls Tryz.prog 48 #[.agg #[.int .i64 (u : Int), .int .i64 (p : Int)]] W fun e w' => e = .returned (.int .i64 0) ∧ Below W.heap.size W w') :
  Calls Tryz.prog 51 #[.agg #[.int .i64 (u : Int), .int .i64 (p : Int)]] w fun e w' => ∃ An cn Ad cd, e = .returned (.tuple #[.agg #[.bool false, .slice An (lm (u / Nat.gcd u (10 ^ p))).length cn, .slice Ad (lm (rden u (10 ^ p))).length cd], .int .i64 0]) ∧ IsN w' (fun k => w.heap.size ≤ k) (.slice An (lm (u / Nat.gcd u (10 ^ p))).length cn) (u / Nat.gcd u (10 ^ p)) ∧ IsN w' (fun k => w.heap.size ≤ k) (.slice Ad (lm (rden u (10 ^ p))).length cd) (rden u (10 ^ p)) ∧ Below w.heap.size w w' := by
 have hT := fun W => ten_calls p hp W
 have h10 : 10 ^ p ≤ 10 ^ 9 := Nat.pow_le_pow_right (by decide) hp
 have h1 : 0 < 10 ^ p := Nat.pow_pos (by decide)
 obtain ⟨T, hTe⟩ : ∃ T, 10 ^ p = T := ⟨_, rfl⟩
 rw [hTe] at hT h10 h1 ⊢
 have hR := fun W => rsmall_calls u T hu (Nat.lt_of_le_of_lt h10 (by decide)) h1 W
 obtain ⟨q1, hq1⟩ : ∃ q, u / Nat.gcd u T = q := ⟨_, rfl⟩
 obtain ⟨q2, hq2⟩ : ∃ q, rden u T = q := ⟨_, rfl⟩
 rw [hq1, hq2] at hR ⊢
 have k0 := new_at w (.cells #[.int .i64 (u : Int), .int .i64 (p : Int)] 42)
 have k1 := new_two w (.cells #[.int .i64 (u : Int), .int .i64 (p : Int)] 42) (.cells #[.bool false, .slice none 0 0, .slice none 0 0] 85)
 have k01 := blk_alloc k0 (.cells #[.bool false, .slice none 0 0, .slice none 0 0] 85)
 have b0 := below_aa w (.cells #[.int .i64 (u : Int), .int .i64 (p : Int)] 42) (.cells #[.bool false, .slice none 0 0, .slice none 0 0] 85)
 go_enter Tryz.func51, Tryz.ntmps51
 go_wp2_with (go_at_call 48; go_must (refine (hC _).mono ?_; rintro e w1 ⟨rfl, hb1⟩; have z1 := blk_below k01 hb1; have z2 := blk_below k1 hb1; have c1 := (blk_cell z1 0).trans rfl; have c2 := (blk_cell z1 1).trans rfl))
 have hb1d := below_drew hb1
 have s2 : ((w.alloc (.cells #[.int .i64 (u : Int), .int .i64 (p : Int)] 42)).alloc (.cells #[.bool false, .slice none 0 0, .slice none 0 0] 85)).heap.size = w.heap.size + 1 + 1 := by rw [size_a, size_a]
 have p1 := hb1.size
 rw [s2] at p1
 have HSP : Hid (∀ (W : World) (u1 u2 u3 : Value), Below w1.heap.size w1 W → (((W.setCell ⟨w.heap.size + 1, 0, none⟩ u1).setCell ⟨w.heap.size + 1, 1, none⟩ u2).setCell ⟨w.heap.size + 1, 2, none⟩ u3).cell? ⟨w.heap.size, 0, none⟩ = some (.int .i64 (u : Int)) ∧ (((W.setCell ⟨w.heap.size + 1, 0, none⟩ u1).setCell ⟨w.heap.size + 1, 1, none⟩ u2).setCell ⟨w.heap.size + 1, 2, none⟩ u3).cell? ⟨w.heap.size, 1, none⟩ = some (.int .i64 (p : Int))) := Lib.hid fun W u1 u2 u3 h1 => by
  have e1 := put3 (r := w.heap.size + 1) (blk_below z1 h1) (by omega) u1 u2 u3
  exact ⟨(blk_cell e1 0).trans rfl, (blk_cell e1 1).trans rfl⟩
 have HKK : Hid (∀ W, Below w1.heap.size w1 W → W.cell? ⟨w.heap.size, 0, none⟩ = some (.int .i64 (u : Int)) ∧ W.cell? ⟨w.heap.size, 1, none⟩ = some (.int .i64 (p : Int))) := Lib.hid fun W h1 => ⟨(blk_cell (blk_below z1 h1) 0).trans rfl, (blk_cell (blk_below z1 h1) 1).trans rfl⟩
 have hd0 : Below w1.heap.size w1 w1.drew := below_drew (Below.refl _ _)
 have hV := HKK.out _ hd0
 go_region_held3 (fun w' => w'.cell? ⟨w.heap.size, 0, none⟩ = some (.int .i64 (u : Int)) ∧ w'.cell? ⟨w.heap.size, 1, none⟩ = some (.int .i64 (p : Int)))
  (first | with_reducible exact hV | with_reducible assumption | exact HKK.out _ (by with_reducible assumption) | with_reducible exact HSP.out _ _ _ _ (by with_reducible assumption) | go_keep)
  (first
   | (go_at_call 75; refine (hT _).mono ?_; rintro e w2 ⟨rfl, hb2⟩; have hs2 := Below.trans hd0 (Below.mono hb2 (Below.size hd0)))
   | (go_at_call 50; refine (hR _).mono ?_; rintro e w3 ⟨An, cn, Ad, cd, rfl, hN1, hN2, hb3⟩; have hs3 := Below.trans hs2 (Below.mono hb3 (Below.size hs2)); have zr := blk_below z2 hs3; obtain ⟨⟨t1, t2, t3⟩, t4, t5, t6⟩ := three_cells zr))
 go_wp2_with fail
 refine bodyPost_ret (results_list (rs := [.cell 2 85, .tmp 3]) rfl (by simp) (.cell (w.heap.size + 1) 85 #[.bool false, .slice An (lm q1).length cn, .slice Ad (lm q2).length cd] (0, 0) _ rfl (put3_self zr _ _ _) Tryz.underlying85 rfl (by kernel_rfl) (.tmp .nil))) rfl ?_
 have p2 := hs2.size
 have hne : ∀ k, w2.heap.size ≤ k → k ≠ w.heap.size + 1 := fun k hk => by omega
 have hfin : ∀ k, w2.heap.size ≤ k → w.heap.size ≤ k := fun k hk => by omega
 have hB1 := b0.trans (hb1.mono b0.size)
 exact ⟨_, _, _, _, rfl, IsN.mono (IsN.put3 hN1 hne _ _ _) hfin, IsN.mono (IsN.put3 hN2 hne _ _ _) hfin, put3_below (hB1.trans (hs3.mono hB1.size)) (by omega) _ _ _⟩
theorem w_small (x : Int) (h0 : 0 ≤ x) (h1 : x ≤ 4096) : wrap64 x = x := by unfold wrap64; omega
theorem add_nought (x : Int) (h0 : 0 ≤ x) (h1 : x < 18446744073709551616) : limb_Add.f x 0 0 = some (x, 0) := by
 unfold limb_Add.f
 rw [if_pos ⟨⟨h0, h1⟩, ⟨Int.le_refl _, by decide⟩, Int.le_refl _, by decide⟩]
 have e1 : (x + 0 + 0) % 18446744073709551616 = x := by omega
 have e2 : (x + 0 + 0) / 18446744073709551616 = 0 := by omega
 rw [e1, e2]
theorem mul_core (k : Nat) (x y hi lo : Int) (hM : limb_Mul.f x y = some (hi, lo)) (h0 : 0 ≤ lo) (h1 : lo < 18446744073709551616) (h2 : 0 ≤ hi) (h3 : hi < 18446744073709551616) :
  nat_Mul.f (k + 4) [x] [y] = (nat_held.f [lo, hi]).bind fun bt => some (bt.1, bt.2) := by
 have w2 : wrap64 ((([x] : List Int).length : Int) + (([y] : List Int).length : Int)) = 2 := by exact w_small 2 (by decide) (by decide)
 unfold nat_Mul.f
 rw [w2, if_pos (by decide), if_pos (by decide)]
 show nat_Mul.l0 (k + 4) [0, 0] [x] 1 0 [y] = _
 rw [nat_Mul.l0, if_pos (by decide), if_pos (by decide), if_pos (show (0 : Int) < (([x] : List Int).length : Int) from by show (0 : Int) < 1; decide)]
 show nat_Mul.l1 (k + 3) [0, 0] 0 x 0 [x] 1 0 [y] 1 0 [y] = _
 rw [nat_Mul.l1, if_pos (by decide), if_pos (by decide), if_pos (show (0 : Int) < (([y] : List Int).length : Int) from by show (0 : Int) < 1; decide)]
 rw [show rd [y] 0 = y from rfl, hM]
 have w0 : wrap64 (0 + 0) = 0 := w_small 0 (by decide) (by decide)
 have w1 : wrap64 (0 + 1) = 1 := w_small 1 (by decide) (by decide)
 have w3 : wrap64 (0 + (([y] : List Int).length : Int)) = 1 := w_small 1 (by decide) (by decide)
 have u1 : IntKind.u64.wrap (IntKind.u64.wrap (hi + 0) + 0) = hi := by rw [IntKind.wrap_u64, IntKind.wrap_u64]; omega
 simp only [Option.bind_some, w0, w1]
 rw [if_pos (by decide), if_pos (show (0 : Int) < (([0, 0] : List Int).length : Int) from by decide)]
 rw [show rd [0, 0] 0 = 0 from rfl, add_nought lo h0 h1]
 simp only [Option.bind_some]
 rw [add_nought lo h0 h1]
 simp only [Option.bind_some, u1]
 show nat_Mul.l1 (k + 2) [lo, 0] 0 x hi [x] 1 0 [y] 1 1 [y] = _
 rw [nat_Mul.l1, if_neg (by decide), w3, if_pos (by decide), if_pos (show (1 : Int) < (([lo, 0] : List Int).length : Int) from by show (1 : Int) < 2; decide), w1]
 show nat_Mul.l0 (k + 1) [lo, hi] [x] 1 1 [y] = _
 rw [nat_Mul.l0, if_neg (by decide)]
theorem held_lm (n : Nat) (h : n < 340282366920938463463374607431768211456) (h0 : n ≠ 0) : nat_held.f [((n % 18446744073709551616 : Nat) : Int), ((n / 18446744073709551616 : Nat) : Int)] = some (lm n, 0) := by
 unfold nat_held.f lm
 rw [if_neg h0]
 by_cases h1 : n < 18446744073709551616
 ·rw [if_pos h1]
  have e1 : n / 18446744073709551616 = 0 := Nat.div_eq_of_lt h1
  have e2 : n % 18446744073709551616 = n := Nat.mod_eq_of_lt h1
  rw [e1, e2]
  have hu : upN [(n : Int), ((0 : Nat) : Int)] [(n : Int), ((0 : Nat) : Int)].length = 1 := by
   show upN _ 2 = 1
   rw [upN, if_pos (show rd [(n : Int), ((0 : Nat) : Int)] ((1 : Nat) : Int) = 0 from rfl), upN, if_neg (show ¬ rd [(n : Int), ((0 : Nat) : Int)] ((0 : Nat) : Int) = 0 from by show ¬ (n : Int) = 0; omega)]
  rw [hu, if_pos (by decide)]
  rfl
 ·rw [if_neg h1]
  have hu : upN [((n % 18446744073709551616 : Nat) : Int), ((n / 18446744073709551616 : Nat) : Int)] [((n % 18446744073709551616 : Nat) : Int), ((n / 18446744073709551616 : Nat) : Int)].length = 2 := by
   show upN _ 2 = 2
   rw [upN, if_neg]
   show ¬ ((n / 18446744073709551616 : Nat) : Int) = 0
   omega
  rw [hu, if_pos (by decide)]
  rfl
theorem mul_nn (k : Nat) : nat_Mul.f (k + 4) [] [] = some ([], 0) := by
 have w2 : wrap64 ((([] : List Int).length : Int) + (([] : List Int).length : Int)) = 0 := w_small 0 (by decide) (by decide)
 unfold nat_Mul.f
 rw [w2, if_pos (by decide), if_pos (by decide)]
 show nat_Mul.l0 (k + 4) [] [] 0 0 [] = _
 rw [nat_Mul.l0, if_neg (by decide)]
 rfl
theorem mul_nx (k : Nat) (y : Int) : nat_Mul.f (k + 4) [] [y] = some ([], 0) := by
 have w2 : wrap64 ((([] : List Int).length : Int) + (([y] : List Int).length : Int)) = 1 := w_small 1 (by decide) (by decide)
 unfold nat_Mul.f
 rw [w2, if_pos (by decide), if_pos (by decide)]
 show nat_Mul.l0 (k + 4) [0] [] 0 0 [y] = _
 rw [nat_Mul.l0, if_neg (by decide)]
 rfl
theorem mul_xn (k : Nat) (x : Int) : nat_Mul.f (k + 4) [x] [] = some ([], 0) := by
 have w2 : wrap64 ((([x] : List Int).length : Int) + (([] : List Int).length : Int)) = 1 := w_small 1 (by decide) (by decide)
 have w0 : wrap64 (0 + (([] : List Int).length : Int)) = 0 := w_small 0 (by decide) (by decide)
 have w1 : wrap64 (0 + 1) = 1 := w_small 1 (by decide) (by decide)
 unfold nat_Mul.f
 rw [w2, if_pos (by decide), if_pos (by decide)]
 show nat_Mul.l0 (k + 4) [0] [x] 1 0 [] = _
 rw [nat_Mul.l0, if_pos (by decide), if_pos (by decide), if_pos (show (0 : Int) < (([x] : List Int).length : Int) from by show (0 : Int) < 1; decide)]
 show nat_Mul.l1 (k + 3) [0] 0 x 0 [x] 1 0 [] 0 0 [] = _
 rw [nat_Mul.l1, if_neg (by decide), w0, if_pos (by decide), if_pos (show (0 : Int) < (([0] : List Int).length : Int) from by decide), w1]
 show nat_Mul.l0 (k + 2) [0] [x] 1 1 [] = _
 rw [nat_Mul.l0, if_neg (by decide)]
 rfl
theorem mul_small (k a b : Nat) (ha : a < 18446744073709551616) (hb : b < 18446744073709551616) : nat_Mul.f (k + 4) (lm a) (lm b) = some (lm (a * b), 0) := by
 by_cases ha0 : a = 0
 ·subst ha0
  rw [Nat.zero_mul, lm_zero]
  by_cases hb0 : b = 0
  ·subst hb0
   exact mul_nn k
  ·rw [lm_one b hb0 hb]
   exact mul_nx k _
 ·rw [lm_one a ha0 ha]
  by_cases hb0 : b = 0
  ·subst hb0
   rw [Nat.mul_zero, lm_zero]
   exact mul_xn k _
  ·rw [lm_one b hb0 hb]
   have hab : a * b < 340282366920938463463374607431768211456 := Nat.lt_of_lt_of_le (Nat.mul_lt_mul_of_lt_of_le ha (Nat.le_of_lt hb) (by decide)) (by decide)
   have h0 : a * b ≠ 0 := Nat.mul_ne_zero ha0 hb0
   have hM : limb_Mul.f (a : Int) (b : Int) = some (((a * b / 18446744073709551616 : Nat) : Int), ((a * b % 18446744073709551616 : Nat) : Int)) := by
    unfold limb_Mul.f bits_Mul64.f
    rw [if_pos ⟨⟨by omega, by omega⟩, by omega, by omega⟩]
    simp only [Int.natCast_ediv, Int.natCast_emod, Int.natCast_mul]
    rfl
   obtain ⟨P, hP⟩ : ∃ P, a * b = P := ⟨_, rfl⟩
   rw [hP] at hM hab h0 ⊢
   rw [mul_core k _ _ _ _ hM (by omega) (by omega) (by omega) (by omega), held_lm P hab h0]
   rfl
def cmpI (x y : Nat) : Int := if x < y then -1 else if y < x then 1 else 0
theorem lm_len (n : Nat) : (lm n).length = if n = 0 then 0 else if n < 18446744073709551616 then 1 else 2 := by
 unfold lm
 split
 ·rfl
 ·split <;> rfl
theorem cmp_one (k : Nat) (x y : Int) : limb_Compare.l0 (k + 4) [x] [y] 1 0 = some (if x < y then -1 else if x > y then 1 else 0) := by
 have w0 : wrap64 (wrap64 ((([x] : List Int).length : Int) - 1) - 0) = 0 := by
  rw [show ((([x] : List Int).length : Int) - 1) = 0 from rfl, w_small 0 (by decide) (by decide)]
  exact w_small 0 (by decide) (by decide)
 have w1 : wrap64 (0 + 1) = 1 := w_small 1 (by decide) (by decide)
 rw [limb_Compare.l0, if_pos (by decide), w0, if_pos (by decide), if_pos (show (0 : Int) < (([x] : List Int).length : Int) from by show (0 : Int) < 1; decide), if_pos (show (0 : Int) < (([y] : List Int).length : Int) from by show (0 : Int) < 1; decide)]
 rw [show rd [x] 0 = x from rfl, show rd [y] 0 = y from rfl, w1]
 by_cases h1 : x < y
 ·rw [if_pos h1, if_pos h1]
 ·rw [if_neg h1, if_neg h1]
  by_cases h2 : x > y
  ·rw [if_pos h2, if_pos h2]
  ·rw [if_neg h2, if_neg h2, limb_Compare.l0, if_neg (by decide)]
theorem cmp_two (k : Nat) (x0 x1 y0 y1 : Int) : limb_Compare.l0 (k + 4) [x0, x1] [y0, y1] 2 0 = some (if x1 < y1 then -1 else if x1 > y1 then 1 else if x0 < y0 then -1 else if x0 > y0 then 1 else 0) := by
 have w0 : wrap64 (wrap64 ((([x0, x1] : List Int).length : Int) - 1) - 0) = 1 := by
  rw [show ((([x0, x1] : List Int).length : Int) - 1) = 1 from rfl, w_small 1 (by decide) (by decide)]
  exact w_small 1 (by decide) (by decide)
 have w00 : wrap64 (wrap64 ((([x0, x1] : List Int).length : Int) - 1) - 1) = 0 := by
  rw [show ((([x0, x1] : List Int).length : Int) - 1) = 1 from rfl, w_small 1 (by decide) (by decide)]
  exact w_small 0 (by decide) (by decide)
 have w1 : wrap64 (0 + 1) = 1 := w_small 1 (by decide) (by decide)
 have w2 : wrap64 (1 + 1) = 2 := w_small 2 (by decide) (by decide)
 rw [limb_Compare.l0, if_pos (by decide), w0, if_pos (by decide), if_pos (show (1 : Int) < (([x0, x1] : List Int).length : Int) from by show (1 : Int) < 2; decide), if_pos (show (1 : Int) < (([y0, y1] : List Int).length : Int) from by show (1 : Int) < 2; decide)]
 rw [show rd [x0, x1] 1 = x1 from rfl, show rd [y0, y1] 1 = y1 from rfl, w1]
 by_cases h1 : x1 < y1
 ·rw [if_pos h1, if_pos h1]
 ·rw [if_neg h1, if_neg h1]
  by_cases h2 : x1 > y1
  ·rw [if_pos h2, if_pos h2]
  ·rw [if_neg h2, if_neg h2, limb_Compare.l0, if_pos (by decide), w00, if_pos (by decide), if_pos (show (0 : Int) < (([x0, x1] : List Int).length : Int) from by show (0 : Int) < 2; decide), if_pos (show (0 : Int) < (([y0, y1] : List Int).length : Int) from by show (0 : Int) < 2; decide)]
   rw [show rd [x0, x1] 0 = x0 from rfl, show rd [y0, y1] 0 = y0 from rfl, w2]
   by_cases h3 : x0 < y0
   ·rw [if_pos h3, if_pos h3]
   ·rw [if_neg h3, if_neg h3]
    by_cases h4 : x0 > y0
    ·rw [if_pos h4, if_pos h4]
    ·rw [if_neg h4, if_neg h4, limb_Compare.l0, if_neg (by decide)]
theorem cmp_small (k x y : Nat) (hx : x < 340282366920938463463374607431768211456) (hy : y < 340282366920938463463374607431768211456) : limb_Compare.f (k + 4) (lm x) (lm y) = some (cmpI x y) := by
 have c1 : limb_cut.f (lm x) = some (lm x) := by unfold limb_cut.f; rw [lm_up x hx, List.take_length]
 have c2 : limb_cut.f (lm y) = some (lm y) := by unfold limb_cut.f; rw [lm_up y hy, List.take_length]
 unfold limb_Compare.f
 rw [c1, c2]
 simp only [Option.bind_some]
 have l1 := lm_len x
 have l2 := lm_len y
 by_cases hl : (lm x).length = (lm y).length
 ·rw [if_pos (by rw [hl])]
  by_cases hx0 : x = 0
  ·subst hx0
   have hy0 : y = 0 := by
    rw [l1, l2, if_pos rfl] at hl
    by_cases hy0 : y = 0
    ·exact hy0
    ·rw [if_neg hy0] at hl
     split at hl <;> cases hl
   subst hy0
   rw [lm_zero]
   show limb_Compare.l0 (k + 4) [] [] 0 0 = _
   rw [limb_Compare.l0, if_neg (by decide)]
   rfl
  ·have hy0 : y ≠ 0 := fun hy0 => by
    rw [l1, l2, if_neg hx0, if_pos hy0] at hl
    split at hl <;> cases hl
   rw [l1, l2, if_neg hx0, if_neg hy0] at hl
   by_cases hx1 : x < 18446744073709551616
   ·have hy1 : y < 18446744073709551616 := by
     rw [if_pos hx1] at hl
     by_cases hy1 : y < 18446744073709551616
     ·exact hy1
     ·rw [if_neg hy1] at hl; cases hl
    rw [lm_one x hx0 hx1, lm_one y hy0 hy1]
    show limb_Compare.l0 (k + 4) [(x : Int)] [(y : Int)] 1 0 = _
    rw [cmp_one]
    unfold cmpI
    congr 1
    by_cases h1 : x < y
    ·rw [if_pos (by omega), if_pos h1]
    ·rw [if_neg (by omega), if_neg h1]
     by_cases h2 : y < x
     ·rw [if_pos (by omega), if_pos h2]
     ·rw [if_neg (by omega), if_neg h2]
   ·have hy1 : ¬ y < 18446744073709551616 := fun hy1 => by
     rw [if_neg hx1, if_pos hy1] at hl; cases hl
    have e1 : lm x = [((x % 18446744073709551616 : Nat) : Int), ((x / 18446744073709551616 : Nat) : Int)] := by unfold lm; rw [if_neg hx0, if_neg hx1]
    have e2 : lm y = [((y % 18446744073709551616 : Nat) : Int), ((y / 18446744073709551616 : Nat) : Int)] := by unfold lm; rw [if_neg hy0, if_neg hy1]
    rw [e1, e2]
    show limb_Compare.l0 (k + 4) [((x % 18446744073709551616 : Nat) : Int), ((x / 18446744073709551616 : Nat) : Int)] [((y % 18446744073709551616 : Nat) : Int), ((y / 18446744073709551616 : Nat) : Int)] 2 0 = _
    rw [cmp_two]
    unfold cmpI
    congr 1
    by_cases h1 : x < y
    ·rw [if_pos h1]
     by_cases a1 : ((x / 18446744073709551616 : Nat) : Int) < ((y / 18446744073709551616 : Nat) : Int)
     ·rw [if_pos a1]
     ·rw [if_neg a1, if_neg (by omega), if_pos (by omega)]
    ·rw [if_neg h1, if_neg (by omega)]
     by_cases h2 : y < x
     ·rw [if_pos h2]
      by_cases a1 : ((x / 18446744073709551616 : Nat) : Int) > ((y / 18446744073709551616 : Nat) : Int)
      ·rw [if_pos a1]
      ·rw [if_neg a1, if_neg (by omega), if_pos (by omega)]
     ·rw [if_neg h2, if_neg (by omega), if_neg (by omega), if_neg (by omega)]
 ·rw [if_neg (by omega)]
  unfold cmpI
  by_cases hlt : (lm x).length < (lm y).length
  ·rw [if_pos (by omega)]
   have : x < y := by
    rw [l1, l2] at hlt
    split at hlt <;> split at hlt <;> (try split at hlt) <;> (try split at hlt) <;> omega
   rw [if_pos this]
  ·rw [if_neg (by omega)]
   have : y < x := by
    rw [l1, l2] at hlt hl
    split at hlt <;> split at hlt <;> (try split at hlt) <;> (try split at hlt) <;> (first | omega | simp_all)
   rw [if_neg (by omega), if_pos this]
def low (d : Nat) : Nat := if d = 0 then 1 else d
theorem den_small (a : Bool) (l : List Int) (d : Nat) : rat_Rat_Den.f a l (lm d) = some (lm (low d)) := by
 unfold rat_Rat_Den.f nat_Nat_IsZero.f low
 by_cases h0 : d = 0
 ·subst h0
  rfl
 ·have : (((lm d).length : Int) == 0) = false := by
   have := lm_len0 d
   exact beq_eq_false_iff_ne.2 (by omega)
  simp only [Option.bind_some]
  rw [if_neg h0, if_neg (by rw [this]; decide)]
theorem whole_mul_small (k n d : Nat) (hn : n < 18446744073709551616) (hd : d < 18446744073709551616) : whole_Mul.f (k + 4) false (lm n) false (lm d) = some (false, lm (n * d), 0) := by
 unfold whole_Mul.f
 rw [mul_small k n d hn hd, Option.bind_some, show (false != false) = false from rfl]
 unfold whole_New.f
 rw [if_neg (by decide), Option.bind_some]
theorem scaled_small (k n d : Nat) (hn : n < 18446744073709551616) (hd : d < 18446744073709551616) : rat_scaled.f (k + 4) false (lm n) (lm d) = some (false, lm (n * d)) := by
 have e1 : whole_New.f false (lm d) = some (false, lm d) := by unfold whole_New.f; rw [if_neg (by decide)]
 unfold rat_scaled.f
 rw [e1, Option.bind_some, whole_mul_small k n d hn hd, Option.bind_some]
theorem mul_bound (a b : Nat) (ha : a < 18446744073709551616) (hb : b < 18446744073709551616) : a * b < 340282366920938463463374607431768211456 := Nat.lt_of_lt_of_le (Nat.mul_lt_mul_of_lt_of_le ha (Nat.le_of_lt hb) (by decide)) (by decide)
theorem whole_cmp_small (k x y : Nat) (hx : x < 340282366920938463463374607431768211456) (hy : y < 340282366920938463463374607431768211456) : whole_Compare.f (k + 4) false (lm x) false (lm y) = some (cmpI x y) := by
 unfold whole_Compare.f nat_Compare.f
 rw [show (false != false) = false from rfl, if_neg (by decide), if_neg (by decide), cmp_small k x y hx hy, Option.bind_some, Option.bind_some]
theorem compare_small (k n1 d1 n2 d2 : Nat) (h1 : n1 < 18446744073709551616) (h2 : low d1 < 18446744073709551616) (h3 : n2 < 18446744073709551616) (h4 : low d2 < 18446744073709551616) :
  rat_Compare.f (k + 4) false (lm n1) (lm d1) false (lm n2) (lm d2) = some (cmpI (n1 * low d2) (n2 * low d1)) := by
 unfold rat_Compare.f
 rw [den_small, den_small, Option.bind_some, scaled_small k n1 _ h1 h4, Option.bind_some, Option.bind_some, scaled_small k n2 _ h3 h2, Option.bind_some, whole_cmp_small k _ _ (mul_bound _ _ h1 h4) (mul_bound _ _ h3 h2), Option.bind_some]
def agF (op c : Int) : Bool := if op = 1 then decide (c < 0) else if op = 2 then decide (c ≤ 0) else if op = 3 then decide (0 < c) else decide (0 ≤ c)
theorem agF_else (op c : Int) (o1 : (op == 1) = false) (o2 : (op == 2) = false) (o3 : (op == 3) = false) : agF op c = decide (0 ≤ c) := by
 unfold agF
 rw [if_neg (by simpa using o1), if_neg (by simpa using o2), if_neg (by simpa using o3)]
theorem pow_le4 (i : Nat) (hi : i ≤ 4) : 10 ^ i ≤ 10000 := by
 have := Nat.pow_le_pow_right (show 0 < 10 by decide) hi
 exact Nat.le_trans this (by decide)
set_option maxHeartbeats 2000000 in
set_option maxRecDepth 100000 in
theorem against_walk (x dg u p : Nat) (op : Int) (hx : x < 9223372036854775808) (hd : dg ≤ 4) (hu : u < 9223372036854775808) (hp : p ≤ 9) (k : Nat) (c : Int) (w : World) (hC : ∀ W, Calls Tryz.prog 48 #[.agg #[.int .i64 (u : Int), .int .i64 (p : Int)]] W fun e w' => e = .returned (.int .i64 0) ∧ Below W.heap.size W w')
  (hcmp : rat_Compare.f k false (lm (x / Nat.gcd x (10 ^ dg))) (lm (rden x (10 ^ dg))) false (lm (u / Nat.gcd u (10 ^ p))) (lm (rden u (10 ^ p))) = some c) :
  Calls Tryz.prog 36 #[.int .i64 (x : Int), .int .i64 (dg : Int), .int .i64 op, .agg #[.int .i64 (u : Int), .int .i64 (p : Int)]] w fun e w' => e = .returned (.bool (agF op c)) ∧ Below w.heap.size w w' := by
 have hz0 := new_at w (.cells #[.int .i64 (u : Int), .int .i64 (p : Int)] 42)
 have b0 : Below w.heap.size w (w.alloc (.cells #[.int .i64 (u : Int), .int .i64 (p : Int)] 42)) := (Below.refl _ _).alloc (Nat.le_refl _) _
 have hR := fun W => rsmall_calls x (10 ^ dg) hx (Nat.lt_of_le_of_lt (pow_le4 dg hd) (by decide)) (Nat.pow_pos (by decide)) W
 have hD := fun W => drat_calls u p hu hp W hC
 obtain ⟨q1, hq1⟩ : ∃ q, x / Nat.gcd x (10 ^ dg) = q := ⟨_, rfl⟩
 obtain ⟨q2, hq2⟩ : ∃ q, rden x (10 ^ dg) = q := ⟨_, rfl⟩
 obtain ⟨q3, hq3⟩ : ∃ q, u / Nat.gcd u (10 ^ p) = q := ⟨_, rfl⟩
 obtain ⟨q4, hq4⟩ : ∃ q, rden u (10 ^ p) = q := ⟨_, rfl⟩
 rw [hq1, hq2, hq3, hq4] at hcmp
 rw [hq1, hq2] at hR
 rw [hq3, hq4] at hD
 go_enter Tryz.func36, Tryz.ntmps36
 go_wp2
 go_loopw [9, 16] (fun s9 s16 wr => ∃ i : Nat, i ≤ dg ∧ s16 = .int .i64 (i : Int) ∧ s9 = .int .i64 ((10 ^ i : Nat) : Int) ∧ Below w.heap.size w wr ∧ wr.heap[w.heap.size]? = some (.cells #[.int .i64 (u : Int), .int .i64 (p : Int)] 42 (0, 0)))
  (fun _ s16 _ => dg - (intOf s16).toNat)
 case atStart => exact ⟨0, Nat.zero_le _, rfl, rfl, b0, hz0⟩
 case round =>
  obtain ⟨i, hi, rfl, rfl, hb, hz⟩ := hrel
  by_cases hlt : i < dg
  ·have hltI : (i : Int) < (dg : Int) := by omega
   have hpi := pow_le4 i (by omega)
   have e1 : IntKind.i64.wrap (((10 ^ i : Nat) : Int) * 10) = ((10 ^ (i + 1) : Nat) : Int) := by
    rw [Nat.pow_succ, i64_w]; unfold wrap64; omega
   have e2 : IntKind.i64.wrap ((i : Int) + 1) = ((i + 1 : Nat) : Int) := by rw [i64_w]; unfold wrap64; omega
   obtain ⟨T, hT⟩ : ∃ T : Nat, 10 ^ i = T := ⟨_, rfl⟩
   obtain ⟨T2, hT2⟩ : ∃ T : Nat, 10 ^ (i + 1) = T := ⟨_, rfl⟩
   rw [hT, hT2] at e1
   rw [hT] 
   go_wp2
   refine ⟨⟨i + 1, by omega, rfl, by rw [hT2], hb, hz⟩, ?_⟩
   simp only [intOf]
   omega
  ·have hii : i = dg := by omega
   subst hii
   have hnlt : ¬ (i : Int) < (i : Int) := by omega
   obtain ⟨T, hT⟩ : ∃ T : Nat, 10 ^ i = T := ⟨_, rfl⟩
   rw [hT] at hR
   rw [hT]
   have hcases : op = 1 ∨ op = 2 ∨ op = 3 ∨ ((op == 1) = false ∧ (op == 2) = false ∧ (op == 3) = false) := by
    by_cases o1 : op = 1
    ·exact .inl o1
    ·by_cases o2 : op = 2
     ·exact .inr (.inl o2)
     ·by_cases o3 : op = 3
      ·exact .inr (.inr (.inl o3))
      ·exact .inr (.inr (.inr ⟨beq_eq_false_iff_ne.2 o1, beq_eq_false_iff_ne.2 o2, beq_eq_false_iff_ne.2 o3⟩))
   rcases hcases with rfl | rfl | rfl | ⟨o1, o2, o3⟩
   all_goals
    go_wp2_with (first
     | (go_at_call 50; go_must ((with_reducible refine (hR _).mono ?_); rintro e w1 ⟨An, cn, Ad, cd, rfl, hN1, hN2, hb1⟩; have z1 := blk_below hz hb1; have zc1 := fun o => (blk_cell (blk_alloc z1 o) 0).trans rfl; have zd1 := fun o => (blk_cell (blk_alloc z1 o) 1).trans rfl))
     | (go_at_call 51; go_must ((with_reducible refine (hD _).mono ?_); rintro e w2 ⟨Bn, bn, Bd, bd, rfl, hM1, hM2, hb2⟩; have y1 := blk_below (new_at w1 _) hb2; have ya := fun o => (blk_cell (blk_alloc y1 o) 0).trans rfl; have yb := fun o => (blk_cell (blk_alloc y1 o) 1).trans rfl; have yc := fun o => (blk_cell (blk_alloc y1 o) 2).trans rfl))
     | (go_at_call 52; go_must ((with_reducible refine (rat_Compare.calls k false An cn (lm q1) Ad cd (lm q2) false Bn bn (lm q3) Bd bd (lm q4) c _ (Kd.F_now (IsN.alloc (IsN.below (IsN.alloc hN1 _) hb2) _).F.2) hN1.F.1 (Kd.F_now (IsN.alloc (IsN.below (IsN.alloc hN2 _) hb2) _).F.2) hN2.F.1 (Kd.F_now (IsN.alloc hM1 _).F.2) hM1.F.1 (Kd.F_now (IsN.alloc hM2 _).F.2) hM2.F.1 hcmp).mono ?_); rintro e w3 ⟨rfl, hb3⟩)))
    go_ret
    have bb1 := hb.trans (hb1.mono hb.size)
    have bb2 := bb1.trans ((Below.alloc (Below.refl _ _) (Nat.le_refl _) (.cells #[.bool false, .slice An (lm q1).length cn, .slice Ad (lm q2).length cd] 85)).mono bb1.size)
    have bb3 := bb2.trans (hb2.mono bb2.size)
    have bb4 := bb3.trans ((Below.alloc (Below.refl _ _) (Nat.le_refl _) (.cells #[.bool false, .slice Bn (lm q3).length bn, .slice Bd (lm q4).length bd] 85)).mono bb3.size)
    refine ⟨?_, bb4.trans (hb3.mono bb4.size)⟩
    first
     | rfl
     | exact congrArg (fun b => Ending.returned (.bool b)) (agF_else op c o1 o2 o3).symm
theorem low_rden (x T : Nat) (hT : 0 < T) : low (rden x T) = T / Nat.gcd x T := by
 unfold low rden
 by_cases h0 : x = 0
 ·subst h0
  rw [if_pos rfl, if_pos rfl, Nat.gcd_zero_left, Nat.div_self hT]
 ·rw [if_neg h0, if_neg]
  have hg : 0 < Nat.gcd x T := Nat.gcd_pos_of_pos_right x hT
  have := Nat.div_pos (Nat.le_of_dvd hT (Nat.gcd_dvd_right x T)) hg
  omega
theorem cmpI_scale (a b g : Nat) (hg : 0 < g) : cmpI (g * a) (g * b) = cmpI a b := by
 unfold cmpI
 by_cases h1 : a < b
 ·rw [if_pos h1, if_pos (Nat.mul_lt_mul_of_pos_left h1 hg)]
 ·rw [if_neg h1, if_neg (fun h => h1 (Nat.lt_of_mul_lt_mul_left h))]
  by_cases h2 : b < a
  ·rw [if_pos h2, if_pos (Nat.mul_lt_mul_of_pos_left h2 hg)]
  ·rw [if_neg h2, if_neg (fun h => h2 (Nat.lt_of_mul_lt_mul_left h))]
theorem cmp_lowest (x T u P : Nat) (hT : 0 < T) (hP : 0 < P) : cmpI (x / Nat.gcd x T * low (rden u P)) (u / Nat.gcd u P * low (rden x T)) = cmpI (x * P) (u * T) := by
 rw [low_rden x T hT, low_rden u P hP]
 obtain ⟨g, hg⟩ : ∃ g, Nat.gcd x T = g := ⟨_, rfl⟩
 obtain ⟨h, hh⟩ : ∃ g, Nat.gcd u P = g := ⟨_, rfl⟩
 have g0 : 0 < g := by rw [← hg]; exact Nat.gcd_pos_of_pos_right x hT
 have h0 : 0 < h := by rw [← hh]; exact Nat.gcd_pos_of_pos_right u hP
 have e1 : g * (x / g) = x := Nat.mul_div_cancel' (by rw [← hg]; exact Nat.gcd_dvd_left x T)
 have e2 : g * (T / g) = T := Nat.mul_div_cancel' (by rw [← hg]; exact Nat.gcd_dvd_right x T)
 have e3 : h * (u / h) = u := Nat.mul_div_cancel' (by rw [← hh]; exact Nat.gcd_dvd_left u P)
 have e4 : h * (P / h) = P := Nat.mul_div_cancel' (by rw [← hh]; exact Nat.gcd_dvd_right u P)
 rw [hg, hh]
 rw [← cmpI_scale _ _ (g * h) (Nat.mul_pos g0 h0)]
 have f1 : g * h * (x / g * (P / h)) = x * P := by
  rw [Nat.mul_mul_mul_comm, e1, e4]
 have f2 : g * h * (u / h * (T / g)) = u * T := by
  rw [Nat.mul_comm g h, Nat.mul_mul_mul_comm, e3, e2]
 rw [f1, f2]
theorem rden_lt (x T : Nat) (hT0 : 0 < T) (hT : T < 18446744073709551616) : low (rden x T) < 18446744073709551616 := by
 rw [low_rden x T hT0]
 exact Nat.lt_of_le_of_lt (Nat.div_le_self _ _) hT
def decOk (u p : Int) : Bool := decide (0 ≤ u ∧ u < 9223372036854775808 ∧ 0 ≤ p ∧ p ≤ 9 ∧ (p > 0 → ¬ Int.tmod u 10 = 0))
def traits_against.f (k : Nat) (a0 a1 a2 a3_0 a3_1 : Int) : Option Bool := if 4 ≤ k ∧ (0 ≤ a0 ∧ a0 < 9223372036854775808) ∧ (0 ≤ a1 ∧ a1 ≤ 4) ∧ decOk a3_0 a3_1 = true then some (agF a2 (cmpI (a0.toNat * 10 ^ a3_1.toNat) (a3_0.toNat * 10 ^ a1.toNat))) else none
theorem traits_against.calls (k : Nat) (a0 a1 a2 a3_0 a3_1 : Int) (r : Bool) (w : World) (h : traits_against.f k a0 a1 a2 a3_0 a3_1 = some r) :
  Calls Tryz.prog 36 #[.int .i64 a0, .int .i64 a1, .int .i64 a2, .agg #[.int .i64 a3_0, .int .i64 a3_1]] w fun e w' => e = .returned (.bool r) ∧ Below w.heap.size w w' := by
 unfold traits_against.f at h
 split at h
 ·rename_i hc
  obtain rfl := Option.some.inj h
  obtain ⟨hk, ⟨h1, h2⟩, ⟨h3, h4⟩, hd⟩ := hc
  obtain ⟨h5, h6, h7, h8, h9⟩ := of_decide_eq_true hd
  obtain ⟨x, rfl⟩ := Int.eq_ofNat_of_zero_le h1
  obtain ⟨dg, rfl⟩ := Int.eq_ofNat_of_zero_le h3
  obtain ⟨u, rfl⟩ := Int.eq_ofNat_of_zero_le h5
  obtain ⟨p, rfl⟩ := Int.eq_ofNat_of_zero_le h7
  simp only [Int.toNat_natCast]
  have hT0 : 0 < 10 ^ dg := Nat.pow_pos (by decide)
  have hP0 : 0 < 10 ^ p := Nat.pow_pos (by decide)
  have hT : 10 ^ dg < 18446744073709551616 := Nat.lt_of_le_of_lt (pow_le4 dg (by omega)) (by decide)
  have hP : 10 ^ p < 18446744073709551616 := Nat.lt_of_le_of_lt (Nat.pow_le_pow_right (by decide) (show p ≤ 9 by omega)) (by decide)
  rw [← cmp_lowest x (10 ^ dg) u (10 ^ p) hT0 hP0]
  obtain ⟨j, rfl⟩ : ∃ j, k = j + 4 := ⟨k - 4, by omega⟩
  have hxl : x / Nat.gcd x (10 ^ dg) < 18446744073709551616 := Nat.lt_of_le_of_lt (Nat.div_le_self _ _) (by omega)
  have hul : u / Nat.gcd u (10 ^ p) < 18446744073709551616 := Nat.lt_of_le_of_lt (Nat.div_le_self _ _) (by omega)
  refine against_walk x dg u p a2 (by omega) (by omega) (by omega) (by omega) (j + 4) _ w (fun W => ?_) (compare_small j _ _ _ _ hxl (rden_lt x _ hT0 hT) hul (rden_lt u _ hP0 hP))
  refine (decimal_Check.calls (u : Int) (p : Int) 0 W ?_).mono ?_
  ·unfold decimal_Check.f
   rw [if_neg (by omega), if_neg (by omega)]
   by_cases hp0 : (p : Int) > 0
   ·rw [if_pos hp0, if_neg (h9 hp0)]
   ·rw [if_neg hp0]
  ·rintro e w' ⟨rfl, hb⟩
   exact ⟨rfl, hb⟩
 ·cases h
theorem traits_against.mono : ∀ a0 a1 a2 a3_0 a3_1 k, LeO (traits_against.f k a0 a1 a2 a3_0 a3_1) (traits_against.f (k + 1) a0 a1 a2 a3_0 a3_1) := by
 intro a0 a1 a2 a3_0 a3_1 k r h
 unfold traits_against.f at h ⊢
 split at h
 ·rename_i hc
  rw [if_pos ⟨by omega, hc.2⟩]
  exact h
 ·cases h
end Go.Proofs.YtlboolhjfffppaaGreatDoor.PBLI
