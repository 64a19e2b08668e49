-- Written by this session's program (wip/tools/pr.py over the kit's print).
import Derived.Test.YtlboolhjfffppaaGreatDoorPh
import Derived.Test.YtlboolhjfffppaaGreatDoorPBLIx0
import Derived.Test.YtlboolhjfffppaaGreatDoorPBLIx4
namespace Go.Proofs.YtlboolhjfffppaaGreatDoor.PBLI
open Go.RowKit Go.Proofs.YtlboolhjfffppaaGreatDoorW.PrintWords Go.Proofs.YtlboolhjfffppaaGreatDoorW.PrintLast Go.Proofs.YtlboolhjfffppaaGreatDoorW.PrintMore
attribute [local go_sem] max2_int min2_int max_two min_two max_three min_three max_four min_four
set_option linter.unusedVariables false
set_option linter.unusedSimpArgs false
def kidsF (T : Nat → Option (Bool × Nat)) : Nat → Nat → Option (Bool × Nat)
 | 0, i => some (true, i)
 | m + 1, i => (T i).bind fun x => if x.1 = true then kidsF T m x.2 else some (false, x.2)
def treeF (K : Nat) (l : List S44) : Nat → Int → Int → Nat → Option (Bool × Nat)
 | 0, _, _, _ => none
 | d + 1, deep, under, i =>
  if i = l.length then some (false, i) else if 16 < deep then some (false, i) else
  (traits_formed.f K (rd_T44 l (i : Int)).f0 (rd_T44 l (i : Int)).f1 (rd_T44 l (i : Int)).f2 (rd_T44 l (i : Int)).f3 (rd_T44 l (i : Int)).f4.f0 (rd_T44 l (i : Int)).f4.f1).bind fun ok =>
   if ok = true then
    if (rd_T44 l (i : Int)).f0 = under ∧ under ≠ 3 then some (false, i + 1)
    else kidsF (treeF K l d (deep + 1) (rd_T44 l (i : Int)).f0) (rd_T44 l (i : Int)).f1.toNat (i + 1)
   else some (false, i + 1)
theorem kidsF_lt (T : Nat → Option (Bool × Nat)) (hT : ∀ i r j, T i = some (r, j) → i ≤ j) : ∀ m i r j, kidsF T m i = some (r, j) → i ≤ j
 | 0, i, r, j, h => by
  obtain ⟨_, rfl⟩ := Prod.mk.inj (Option.some.inj h); exact Nat.le_refl _
 | m + 1, i, r, j, h => by
  rw [kidsF] at h
  obtain ⟨⟨b, i2⟩, h1, h⟩ := Option.bind_eq_some_iff.mp h
  have := hT _ _ _ h1
  cases b with
  | false => obtain ⟨_, rfl⟩ := Prod.mk.inj (Option.some.inj h); exact this
  | true => exact Nat.le_trans this (kidsF_lt T hT m i2 r j h)
theorem treeF_lt (K : Nat) (l : List S44) : ∀ (d : Nat) (deep under : Int) (i : Nat) (r : Bool) (j : Nat), treeF K l d deep under i = some (r, j) → i ≤ j ∧ (r = true → i < j)
 | 0, _, _, _, _, _, h => by simp [treeF] at h
 | d + 1, deep, under, i, r, j, h => by
  rw [treeF] at h
  split at h
  ·obtain ⟨rfl, rfl⟩ := Prod.mk.inj (Option.some.inj h); exact ⟨Nat.le_refl _, fun q => by cases q⟩
  ·split at h
   ·obtain ⟨rfl, rfl⟩ := Prod.mk.inj (Option.some.inj h); exact ⟨Nat.le_refl _, fun q => by cases q⟩
   ·obtain ⟨ok, _, h⟩ := Option.bind_eq_some_iff.mp h
    split at h
    ·split at h
     ·obtain ⟨rfl, rfl⟩ := Prod.mk.inj (Option.some.inj h); exact ⟨Nat.le_succ _, fun q => by cases q⟩
     ·have := kidsF_lt _ (fun i r j h => (treeF_lt K l d _ _ i r j h).1) _ _ _ _ h
      exact ⟨by omega, fun _ => by omega⟩
    ·obtain ⟨rfl, rfl⟩ := Prod.mk.inj (Option.some.inj h); exact ⟨Nat.le_succ _, fun q => by cases q⟩
def traits_Check.f (k : Nat) (l0 : List S44) : Option Int :=
 if l0.length = 0 then some 0 else if 64 < l0.length then some 131 else (treeF k l0 20 1 0 0).map fun x => if x.1 = true ∧ x.2 = l0.length then 0 else 131
structure TB (w : World) (a n t : Nat) (A0 : Option Addr) (len c0 : Nat) (i : Nat) : Prop where
 at_ : w.heap[a]? = some (.cells #[.int .i64 (i : Int)] 3 (0, 0))
 nodes : w.heap[n]? = some (.cells #[.slice A0 len c0] 22 (0, 0))
 tree : w.heap[t]? = some (.cells #[.func (.func 33) #[] #[.pointer (some ⟨a, 0, none⟩), .pointer (some ⟨n, 0, none⟩), .pointer (some ⟨t, 0, none⟩)]] 63 (0, 0))
theorem TB.na {w : World} {a n t : Nat} {A0 : Option Addr} {len c0 i : Nat} (h : TB w a n t A0 len c0 i) : n ≠ a := fun e => by
 have h1 := h.nodes; rw [e, h.at_] at h1; simp at h1
theorem TB.ta {w : World} {a n t : Nat} {A0 : Option Addr} {len c0 i : Nat} (h : TB w a n t A0 len c0 i) : t ≠ a := fun e => by
 have h1 := h.tree; rw [e, h.at_] at h1; simp at h1
theorem TB.on {w w' : World} {a n t : Nat} {A0 : Option Addr} {len c0 i i' : Nat} (h : TB w a n t A0 len c0 i) (hg : w.grownBy w' (some a)) (ha : w'.heap[a]? = some (.cells #[.int .i64 (i' : Int)] 3 (0, 0))) : TB w' a n t A0 len c0 i' :=
 ⟨ha, (hg.block n (lt_of_block h.nodes) (by have := h.na; simpa using this)).trans h.nodes, (hg.block t (lt_of_block h.tree) (by have := h.ta; simpa using this)).trans h.tree⟩
theorem grown_refl (w : World) (row : Option Nat) : w.grownBy w row := ⟨rfl, rfl, rfl, Nat.le_refl _, fun _ _ _ => rfl⟩
theorem below_sp {a : Nat} {w0 w : World} (hb : Below w0.heap.size w0 w) (ha : w0.heap.size ≤ a) (v : Value) (o : Obj) : Below w0.heap.size w0 ((w.setCell ⟨a, 0, none⟩ v).alloc o) :=
 (hb.setCell (by show w0.heap.size ≤ a; exact ha) v).alloc (by have := hb.size; simpa using this) o
theorem after_sa {w w' : World} {a : Nat} {u v : Value} {o : Obj} (hA : w.heap[a]? = some (.cells #[u] 3 (0, 0))) (hb2 : Below ((w.setCell ⟨a, 0, none⟩ v).alloc o).heap.size ((w.setCell ⟨a, 0, none⟩ v).alloc o) w') :
  w.grownBy w' (some a) ∧ w'.heap[a]? = some (.cells #[v] 3 (0, 0)) ∧ w'.heap[w.heap.size]? = some o := by
 have hlt := lt_of_block hA
 have hs : (w.setCell ⟨a, 0, none⟩ v).heap.size = w.heap.size := by simp
 have hsz : ((w.setCell ⟨a, 0, none⟩ v).alloc o).heap.size = w.heap.size + 1 := by simp
 have h1 : ∀ k, k < w.heap.size → ((w.setCell ⟨a, 0, none⟩ v).alloc o).heap[k]? = (w.setCell ⟨a, 0, none⟩ v).heap[k]? := fun k hk => Below.heap_alloc _ _ _ (by rw [hs]; exact hk)
 refine ⟨⟨?_, ?_, ?_, ?_, fun k hk hne => ?_⟩, ?_, ?_⟩
 ·exact hb2.os.trans ((Below.refl 0 w).setCell (Nat.zero_le _) v |>.alloc (Nat.zero_le _) o).os
 ·exact hb2.tape.trans ((Below.refl 0 w).setCell (Nat.zero_le _) v |>.alloc (Nat.zero_le _) o).tape
 ·exact hb2.output.trans ((Below.refl 0 w).setCell (Nat.zero_le _) v |>.alloc (Nat.zero_le _) o).output
 ·have := hb2.size; rw [hsz] at this; omega
 ·exact (hb2.block k (by rw [hsz]; omega)).trans ((h1 k hk).trans (Below.heap_setCell _ _ _ _ (by show k ≠ a; intro e; exact hne (by rw [e]))))
 ·exact (hb2.block a (by rw [hsz]; omega)).trans ((h1 a hlt).trans (one_setCell hA))
 ·have h2 := (MapKept.heap_alloc (w.setCell ⟨a, 0, none⟩ v) o).1
  rw [hs] at h2
  exact (hb2.block w.heap.size (by rw [hsz]; omega)).trans h2
set_option maxRecDepth 100000 in
set_option maxHeartbeats 4000000 in
theorem tree_calls (K : Nat) (w0 : World) (l : List S44) (A0 : Option Addr) (c0 : Nat) (hC : Kd.C k44 w0 A0 l.length l) (hl : l.length ≤ 64) (hG : GT w0) (a n t : Nat) (ha : w0.heap.size ≤ a) :
  ∀ (d : Nat) (deep under : Int) (i : Nat) (r : Bool) (j : Nat) (w : World), 0 ≤ deep → i ≤ l.length → treeF K l d deep under i = some (r, j) → Below w0.heap.size w0 w → TB w a n t A0 l.length c0 i →
   Calls Tryz.prog 33 #[.int .i64 deep, .int .i64 under, .pointer (some ⟨a, 0, none⟩), .pointer (some ⟨n, 0, none⟩), .pointer (some ⟨t, 0, none⟩)] w fun e w' =>
    e = .returned (.bool r) ∧ w.grownBy w' (some a) ∧ j ≤ l.length ∧ w'.heap[a]? = some (.cells #[.int .i64 (j : Int)] 3 (0, 0))
 | 0, _, _, _, _, _, _, _, _, h, _, _ => by simp [treeF] at h
 | d + 1, deep, under, i, r, j, w, hd, hi, h, hb, hT => by
  have ih := tree_calls K w0 l A0 c0 hC hl hG a n t ha d
  have hcA := cell_of_one hT.at_
  have hfA := free_of_one hT.at_
  have hcN := cell_of_one hT.nodes
  have hcT := cell_of_one hT.tree
  have hltA := lt_of_block hT.at_
  have hcA1 : ∀ o, (w.alloc o).cell? ⟨a, 0, none⟩ = some (.int .i64 (i : Int)) := fun o => (((Below.refl w.heap.size w).alloc (Nat.le_refl _) o).cell hltA).trans hcA
  have hfA1 : ∀ o, (w.alloc o).frozen? ⟨a, 0, none⟩ = false := fun o => (((Below.refl w.heap.size w).alloc (Nat.le_refl _) o).frozen hltA).trans hfA
  have hne1 : ¬ a = w.heap.size := by omega
  have hne2 : ¬ w.heap.size = a := by omega
  rw [treeF] at h
  by_cases c1 : i = l.length
  ·rw [if_pos c1] at h
   obtain ⟨rfl, rfl⟩ := Prod.mk.inj (Option.some.inj h)
   subst c1
   go_enter Tryz.func33, Tryz.ntmps33
   go_wp2
   go_ret
   exact ⟨rfl, by first | exact ⟨grown_refl _ _, hi, hT.at_⟩ | exact ⟨grown_refl _ _, hT.at_⟩⟩
  ·rw [if_neg c1] at h
   have c1z : ¬ (i : Int) = (l.length : Int) := by omega
   have c1y : ¬ (l.length : Int) = (i : Int) := by omega
   have c1x : ((i : Int) == (l.length : Int)) = false := beq_eq_false_iff_ne.2 c1z
   have hi64 : (i : Int) < 64 := by omega
   by_cases c2 : 16 < deep
   ·rw [if_pos c2] at h
    obtain ⟨rfl, rfl⟩ := Prod.mk.inj (Option.some.inj h)
    go_enter Tryz.func33, Tryz.ntmps33
    go_wp2
    go_ret
    exact ⟨rfl, by first | exact ⟨grown_refl _ _, hi, hT.at_⟩ | exact ⟨grown_refl _ _, hT.at_⟩⟩
   ·rw [if_neg c2] at h
    have c2z : deep ≤ 16 := by omega
    have hi0 : 0 ≤ (i : Int) := by omega
    have hiz : (i : Int) < (l.length : Int) := by omega
    obtain ⟨ad, rfl, x0, x1, x2, x3, x4, x5⟩ := at_T44 (Kd.C_below hC hb) (i : Int) hi0 hiz
    obtain ⟨m, hm⟩ : ∃ m, rd_T44 l (i : Int) = m := ⟨_, rfl⟩
    rw [hm] at x0 x1 x2 x3 x4 x5 h
    simp only [Int.toNat_natCast] at x0 x1 x2 x3 x4 x5
    obtain ⟨ok, hok, h⟩ := Option.bind_eq_some_iff.mp h
    cases ok with
    | false =>
     obtain ⟨rfl, rfl⟩ := Prod.mk.inj (Option.some.inj h)
     go_enter Tryz.func33, Tryz.ntmps33
     go_wp2_with (go_at_call 34; go_must (refine (traits_formed.calls K m.f0 m.f1 m.f2 m.f3 m.f4.f0 m.f4.f1 _ _ hok (hG.at (below_sp hb ha _ _))).mono ?_; rintro e w' ⟨rfl, hb2⟩; obtain ⟨hgr, hat, hS⟩ := after_sa hT.at_ hb2; have hs0 : w'.cell? ⟨w.heap.size, 0, none⟩ = some (.int .i64 m.f0) := (Joins.cell_of_block hS 0).trans rfl; have hs1 : w'.cell? ⟨w.heap.size, 1, none⟩ = some (.int .i64 m.f1) := (Joins.cell_of_block hS 1).trans rfl))
     go_ret
     exact ⟨rfl, hgr, by omega, by simpa using hat⟩
    | true =>
     rw [if_pos rfl] at h
     by_cases c3 : m.f0 = under
     ·by_cases c4 : under = 3
      ·rw [if_neg (fun q => q.2 c4)] at h
       have e1 : (m.f0 == under) = true := beq_iff_eq.2 c3
       have e2 : (under != 3) = false := by rw [c4]; rfl
       clear c3 c4
       go_enter Tryz.func33, Tryz.ntmps33
       go_wp2_with (go_at_call 34; go_must (refine (traits_formed.calls K m.f0 m.f1 m.f2 m.f3 m.f4.f0 m.f4.f1 _ _ hok (hG.at (below_sp hb ha _ _))).mono ?_; rintro e w' ⟨rfl, hb2⟩; obtain ⟨hgr, hat, hS⟩ := after_sa hT.at_ hb2; have hs0 : w'.cell? ⟨w.heap.size, 0, none⟩ = some (.int .i64 m.f0) := (Joins.cell_of_block hS 0).trans rfl; have hs1 : w'.cell? ⟨w.heap.size, 1, none⟩ = some (.int .i64 m.f1) := (Joins.cell_of_block hS 1).trans rfl))
       go_loopw [38] (fun v wr => ∃ q i' : Nat, v = .int .i64 q ∧ q ≤ m.f1.toNat ∧ q + i + 1 ≤ i' ∧ i' ≤ l.length ∧ kidsF (treeF K l d (deep + 1) m.f0) (m.f1.toNat - q) i' = some (r, j) ∧ w.grownBy wr (some a) ∧ wr.heap[a]? = some (.cells #[.int .i64 (i' : Int)] 3 (0, 0)) ∧ wr.heap[w.heap.size]? = some (.cells #[.int .i64 m.f0, .int .i64 m.f1, .string m.f2, .int .i64 m.f3, .int .i64 m.f4.f0, .int .i64 m.f4.f1] 44 (0, 0)))
        (fun v _ => m.f1.toNat - (intOf v).toNat)
       case atStart => exact ⟨0, i + 1, rfl, Nat.zero_le _, by omega, by omega, h, hgr, hat, hS⟩
       case round =>
        obtain ⟨q, i', rfl, hq, hqi, hi', hk, hg, hA', hS'⟩ := hrel
        clear hcA hfA hcN hcT hcA1 hfA1 hne1 hne2 x0 x1 x2 x3 x4 x5 hs0 hs1 hb2 hS hgr hat c1z c1y c1x
        have hcS0 : wr.cell? ⟨w.heap.size, 0, none⟩ = some (.int .i64 m.f0) := (Joins.cell_of_block hS' 0).trans rfl
        have hT' : TB wr a n t (some ad) l.length c0 i' := hT.on hg hA'
        have hcT' := cell_of_one hT'.tree
        have hbr : Below w0.heap.size w0 wr := hb.grown hg hb.size (fun k hk => by cases hk; exact ha)
        have hq64 : (q : Int) < 64 := by omega
        by_cases c5 : (q : Int) < m.f1
        ·rw [show m.f1.toNat - q = (m.f1.toNat - (q + 1)) + 1 from by omega, kidsF] at hk
         obtain ⟨⟨b, i2⟩, hk1, hk⟩ := Option.bind_eq_some_iff.mp hk
         have hlt2 := treeF_lt K l d _ _ _ _ _ hk1
         cases b with
         | false =>
          obtain ⟨rfl, rfl⟩ := Prod.mk.inj (Option.some.inj hk)
          go_wp2_with (go_at_call 33; go_must (refine (ih (deep + 1) m.f0 i' _ _ wr (by omega) hi' hk1 hbr hT').mono ?_; rintro e w2 ⟨rfl, hg2, hj2, hA2⟩))
          go_ret
          exact ⟨rfl, by first | exact ⟨hg.trans hg2, hj2, hA2⟩ | exact ⟨hg.trans hg2, hA2⟩⟩
         | true =>
          have hk : kidsF (treeF K l d (deep + 1) m.f0) (m.f1.toNat - (q + 1)) i2 = some (r, j) := hk
          have hlt3 : i' < i2 := hlt2.2 rfl
          go_wp2_with (go_at_call 33; go_must (refine (ih (deep + 1) m.f0 i' _ _ wr (by omega) hi' hk1 hbr hT').mono ?_; rintro e w2 ⟨rfl, hg2, hj2, hA2⟩))
          go_roundw
          case rel => exact ⟨q + 1, i2, by go_num, by omega, by omega, hj2, hk, hg.trans hg2, hA2, (hg2.block w.heap.size (lt_of_block hS') (by have := lt_of_block hT.at_; simp; omega)).trans hS'⟩
          case measure => simp [intOf]; omega
        ·rw [show m.f1.toNat - q = 0 from by omega, kidsF] at hk
         obtain ⟨rfl, rfl⟩ := Prod.mk.inj (Option.some.inj hk)
         go_wp2
         go_ret
         exact ⟨rfl, by first | exact ⟨hg, hi', hA'⟩ | exact ⟨hg, hA'⟩⟩
      ·rw [if_pos ⟨c3, c4⟩] at h
       obtain ⟨rfl, rfl⟩ := Prod.mk.inj (Option.some.inj h)
       have e1 : (m.f0 == under) = true := beq_iff_eq.2 c3
       have e2 : (under != 3) = true := bne_iff_ne.2 c4
       clear c3 c4
       go_enter Tryz.func33, Tryz.ntmps33
       go_wp2_with (go_at_call 34; go_must (refine (traits_formed.calls K m.f0 m.f1 m.f2 m.f3 m.f4.f0 m.f4.f1 _ _ hok (hG.at (below_sp hb ha _ _))).mono ?_; rintro e w' ⟨rfl, hb2⟩; obtain ⟨hgr, hat, hS⟩ := after_sa hT.at_ hb2; have hs0 : w'.cell? ⟨w.heap.size, 0, none⟩ = some (.int .i64 m.f0) := (Joins.cell_of_block hS 0).trans rfl; have hs1 : w'.cell? ⟨w.heap.size, 1, none⟩ = some (.int .i64 m.f1) := (Joins.cell_of_block hS 1).trans rfl))
       go_ret
       exact ⟨rfl, hgr, by omega, by simpa using hat⟩
     ·rw [if_neg (fun q => c3 q.1)] at h
      have e1 : (m.f0 == under) = false := beq_eq_false_iff_ne.2 c3
      clear c3
      go_enter Tryz.func33, Tryz.ntmps33
      go_wp2_with (go_at_call 34; go_must (refine (traits_formed.calls K m.f0 m.f1 m.f2 m.f3 m.f4.f0 m.f4.f1 _ _ hok (hG.at (below_sp hb ha _ _))).mono ?_; rintro e w' ⟨rfl, hb2⟩; obtain ⟨hgr, hat, hS⟩ := after_sa hT.at_ hb2; have hs0 : w'.cell? ⟨w.heap.size, 0, none⟩ = some (.int .i64 m.f0) := (Joins.cell_of_block hS 0).trans rfl; have hs1 : w'.cell? ⟨w.heap.size, 1, none⟩ = some (.int .i64 m.f1) := (Joins.cell_of_block hS 1).trans rfl))
      go_loopw [38] (fun v wr => ∃ q i' : Nat, v = .int .i64 q ∧ q ≤ m.f1.toNat ∧ q + i + 1 ≤ i' ∧ i' ≤ l.length ∧ kidsF (treeF K l d (deep + 1) m.f0) (m.f1.toNat - q) i' = some (r, j) ∧ w.grownBy wr (some a) ∧ wr.heap[a]? = some (.cells #[.int .i64 (i' : Int)] 3 (0, 0)) ∧ wr.heap[w.heap.size]? = some (.cells #[.int .i64 m.f0, .int .i64 m.f1, .string m.f2, .int .i64 m.f3, .int .i64 m.f4.f0, .int .i64 m.f4.f1] 44 (0, 0)))
       (fun v _ => m.f1.toNat - (intOf v).toNat)
      case atStart => exact ⟨0, i + 1, rfl, Nat.zero_le _, by omega, by omega, h, hgr, hat, hS⟩
      case round =>
       obtain ⟨q, i', rfl, hq, hqi, hi', hk, hg, hA', hS'⟩ := hrel
       clear hcA hfA hcN hcT hcA1 hfA1 hne1 hne2 x0 x1 x2 x3 x4 x5 hs0 hs1 hb2 hS hgr hat c1z c1y c1x
       have hcS0 : wr.cell? ⟨w.heap.size, 0, none⟩ = some (.int .i64 m.f0) := (Joins.cell_of_block hS' 0).trans rfl
       have hT' : TB wr a n t (some ad) l.length c0 i' := hT.on hg hA'
       have hcT' := cell_of_one hT'.tree
       have hbr : Below w0.heap.size w0 wr := hb.grown hg hb.size (fun k hk => by cases hk; exact ha)
       have hq64 : (q : Int) < 64 := by omega
       by_cases c5 : (q : Int) < m.f1
       ·rw [show m.f1.toNat - q = (m.f1.toNat - (q + 1)) + 1 from by omega, kidsF] at hk
        obtain ⟨⟨b, i2⟩, hk1, hk⟩ := Option.bind_eq_some_iff.mp hk
        have hlt2 := treeF_lt K l d _ _ _ _ _ hk1
        cases b with
        | false =>
         obtain ⟨rfl, rfl⟩ := Prod.mk.inj (Option.some.inj hk)
         go_wp2_with (go_at_call 33; go_must (refine (ih (deep + 1) m.f0 i' _ _ wr (by omega) hi' hk1 hbr hT').mono ?_; rintro e w2 ⟨rfl, hg2, hj2, hA2⟩))
         go_ret
         exact ⟨rfl, by first | exact ⟨hg.trans hg2, hj2, hA2⟩ | exact ⟨hg.trans hg2, hA2⟩⟩
        | true =>
         have hk : kidsF (treeF K l d (deep + 1) m.f0) (m.f1.toNat - (q + 1)) i2 = some (r, j) := hk
         have hlt3 : i' < i2 := hlt2.2 rfl
         go_wp2_with (go_at_call 33; go_must (refine (ih (deep + 1) m.f0 i' _ _ wr (by omega) hi' hk1 hbr hT').mono ?_; rintro e w2 ⟨rfl, hg2, hj2, hA2⟩))
         go_roundw
         case rel => exact ⟨q + 1, i2, by go_num, by omega, by omega, hj2, hk, hg.trans hg2, hA2, (hg2.block w.heap.size (lt_of_block hS') (by have := lt_of_block hT.at_; simp; omega)).trans hS'⟩
         case measure => simp [intOf]; omega
       ·rw [show m.f1.toNat - q = 0 from by omega, kidsF] at hk
        obtain ⟨rfl, rfl⟩ := Prod.mk.inj (Option.some.inj hk)
        go_wp2
        go_ret
        exact ⟨rfl, by first | exact ⟨hg, hi', hA'⟩ | exact ⟨hg, hA'⟩⟩
theorem three_allocs (w : World) (o1 o2 o3 : Obj) : (((w.alloc o1).alloc o2).alloc o3).heap[w.heap.size]? = some o1 ∧ (((w.alloc o1).alloc o2).alloc o3).heap[w.heap.size + 1]? = some o2 ∧ (((w.alloc o1).alloc o2).alloc o3).heap[w.heap.size + 2]? = some o3 := by
 have h1 := (MapKept.heap_alloc w o1).1
 have h2 := (MapKept.heap_alloc (w.alloc o1) o2).1
 have h3 := (MapKept.heap_alloc ((w.alloc o1).alloc o2) o3).1
 have s1 : (w.alloc o1).heap.size = w.heap.size + 1 := by simp
 have s2 : ((w.alloc o1).alloc o2).heap.size = w.heap.size + 2 := by simp
 rw [s1] at h2
 rw [s2] at h3
 exact ⟨(Below.heap_alloc _ _ _ (by rw [s2]; omega)).trans ((Below.heap_alloc _ _ _ (by rw [s1]; omega)).trans h1), (Below.heap_alloc _ _ _ (by rw [s2]; omega)).trans h2, h3⟩
theorem below3 (w : World) (o1 o2 o3 : Obj) : Below w.heap.size w (((w.alloc o1).alloc o2).alloc o3) :=
 (((Below.refl _ _).alloc (Nat.le_refl _) _).alloc (by simp) _).alloc (by simp; omega) _
theorem traits_Check.calls (k : Nat) (A0 : Option Addr) (c0 : Nat) (l0 : List S44) (r : Int) (w : World) (hr0 : Kd.C k44 w A0 l0.length l0) (hc0 : l0.length ≤ c0) (h : traits_Check.f k l0 = some r) (hG : GT w) :
  Calls Tryz.prog 17 #[.slice A0 l0.length c0] w fun e w' => e = .returned (.int .i64 r) ∧ Below w.heap.size w w' := by
 rw [traits_Check.f] at h
 by_cases c1 : l0.length = 0
 ·rw [if_pos c1] at h
  obtain rfl := Option.some.inj h
  have c1z : (l0.length : Int) = 0 := by omega
  go_enter Tryz.func17, Tryz.ntmps17
  go_wp2
  go_ret
  exact ⟨rfl, (Below.refl _ _).alloc (Nat.le_refl _) _⟩
 ·rw [if_neg c1] at h
  have c1z : ¬ (l0.length : Int) = 0 := by omega
  by_cases c2 : 64 < l0.length
  ·rw [if_pos c2] at h
   obtain rfl := Option.some.inj h
   have c2z : 64 < (l0.length : Int) := by omega
   go_enter Tryz.func17, Tryz.ntmps17
   go_wp2
   go_ret
   exact ⟨rfl, (Below.refl _ _).alloc (Nat.le_refl _) _⟩
  ·rw [if_neg c2] at h
   have c2z : ¬ 64 < (l0.length : Int) := by omega
   obtain ⟨⟨b, j⟩, ht, h⟩ := Option.map_eq_some_iff.mp h
   have hmf : ∀ (fn : Fn) (first cap : Array Value) (w : World), (Instr.makeFunc fn first cap).run Tryz.prog w = .ok (.func fn first cap) w := fun _ _ _ _ => rfl
   have hsf := fun (a : Addr) (c : Array Value) (w : World) => run_store Tryz.prog w a (.func (.func 33) #[] c) .plain rfl
   obtain ⟨W3, hW3⟩ : ∃ W3, ((w.alloc (.cells #[.slice A0 l0.length c0] 22)).alloc (.cells #[.int .i64 0] 3)).alloc (.cells #[.func (.func 33) #[] #[.pointer (some ⟨w.heap.size + 1, 0, none⟩), .pointer (some ⟨w.heap.size, 0, none⟩), .pointer (some ⟨w.heap.size + 1 + 1, 0, none⟩)]] 63) = W3 := ⟨_, rfl⟩
   have hB3 : Below w.heap.size w W3 := by rw [← hW3]; exact below3 w _ _ _
   have hT3 : TB W3 (w.heap.size + 1) w.heap.size (w.heap.size + 1 + 1) A0 l0.length c0 0 := by
    rw [← hW3]
    exact ⟨(three_allocs w _ _ _).2.1, (three_allocs w _ _ _).1, (three_allocs w _ _ _).2.2⟩
   have hcall := tree_calls k w l0 A0 c0 hr0 (by omega) hG (w.heap.size + 1) w.heap.size (w.heap.size + 1 + 1) (by omega) 20 1 0 0 b j W3 (by omega) (by omega) ht hB3 hT3
   have hfin : ∀ w', W3.grownBy w' (some (w.heap.size + 1)) → Below w.heap.size w w' := fun w' hg => hB3.grown hg hB3.size (fun k hk => by cases hk; exact Nat.le_succ _)
   have hnod : ∀ w', W3.grownBy w' (some (w.heap.size + 1)) → w'.heap[w.heap.size + 1]? = some (.cells #[.int .i64 (j : Int)] 3 (0, 0)) → w'.cell? ⟨w.heap.size, 0, none⟩ = some (.slice A0 l0.length c0) := fun w' hg hA => cell_of_one (hT3.on hg hA).nodes
   rw [← hW3] at hcall hfin hnod
   clear hT3 hB3 hW3 W3 ht hr0
   cases b with
   | false =>
    obtain rfl : (131 : Int) = r := h
    go_enter Tryz.func17, Tryz.ntmps17
    go_wp2_with (go_at_call 33; go_must (refine hcall.mono ?_; rintro e w' ⟨rfl, hg, hj, hA⟩; have hcA := cell_of_one hA; have hcN := hnod w' hg hA; have hbf := hfin w' hg))
    go_ret
    exact ⟨rfl, hbf⟩
   | true =>
    by_cases c3 : j = l0.length
    ·obtain rfl : (0 : Int) = r := by rw [← h]; exact (if_pos ⟨rfl, c3⟩).symm
     have c3z : ((j : Int) != (l0.length : Int)) = false := by rw [c3]; simp
     go_enter Tryz.func17, Tryz.ntmps17
     go_wp2_with (go_at_call 33; go_must (refine hcall.mono ?_; rintro e w' ⟨rfl, hg, hj, hA⟩; have hcA := cell_of_one hA; have hcN := hnod w' hg hA; have hbf := hfin w' hg))
     go_ret
     exact ⟨rfl, hbf⟩
    ·obtain rfl : (131 : Int) = r := by rw [← h]; exact (if_neg (fun q => c3 q.2)).symm
     have c3z : ((j : Int) != (l0.length : Int)) = true := bne_iff_ne.2 (by omega)
     go_enter Tryz.func17, Tryz.ntmps17
     go_wp2_with (go_at_call 33; go_must (refine hcall.mono ?_; rintro e w' ⟨rfl, hg, hj, hA⟩; have hcA := cell_of_one hA; have hcN := hnod w' hg hA; have hbf := hfin w' hg))
     go_ret
     exact ⟨rfl, hbf⟩
theorem kidsF_mono {T T' : Nat → Option (Bool × Nat)} (h : ∀ i, LeO (T i) (T' i)) : ∀ m i, LeO (kidsF T m i) (kidsF T' m i)
 | 0, i => LeO.refl _
 | m + 1, i => fun r hr => by
  rw [kidsF] at hr ⊢
  obtain ⟨⟨b, i2⟩, h1, h2⟩ := Option.bind_eq_some_iff.mp hr
  rw [h i _ h1, Option.bind_some]
  cases b with
  | false => exact h2
  | true => exact kidsF_mono h m i2 r h2
theorem treeF_mono (K : Nat) (l : List S44) : ∀ (d : Nat) (deep under : Int) (i : Nat), LeO (treeF K l d deep under i) (treeF (K + 1) l d deep under i)
 | 0, _, _, _ => fun r hr => by simp [treeF] at hr
 | d + 1, deep, under, i => fun r hr => by
  rw [treeF] at hr ⊢
  by_cases c1 : i = l.length
  ·rw [if_pos c1] at hr ⊢; exact hr
  ·rw [if_neg c1] at hr ⊢
   by_cases c2 : 16 < deep
   ·rw [if_pos c2] at hr ⊢; exact hr
   ·rw [if_neg c2] at hr ⊢
    obtain ⟨ok, h1, h2⟩ := Option.bind_eq_some_iff.mp hr
    rw [traits_formed.mono _ _ _ _ _ _ _ _ h1, Option.bind_some]
    by_cases c3 : ok = true
    ·rw [if_pos c3] at h2 ⊢
     split at h2
     ·rename_i c4; rw [if_pos c4]; exact h2
     ·rename_i c4; rw [if_neg c4]; exact kidsF_mono (fun i => treeF_mono K l d _ _ i) _ _ r h2
    ·rw [if_neg c3] at h2 ⊢; exact h2
theorem traits_Check.mono : ∀ l0 k, LeO (traits_Check.f k l0) (traits_Check.f (k + 1) l0) := fun l0 k r hr => by
 rw [traits_Check.f] at hr ⊢
 by_cases c1 : l0.length = 0
 ·rw [if_pos c1] at hr ⊢; exact hr
 ·rw [if_neg c1] at hr ⊢
  by_cases c2 : 64 < l0.length
  ·rw [if_pos c2] at hr ⊢; exact hr
  ·rw [if_neg c2] at hr ⊢
   obtain ⟨x, h1, h2⟩ := Option.map_eq_some_iff.mp hr
   exact Option.map_eq_some_iff.mpr ⟨x, treeF_mono k l0 20 1 0 0 x h1, h2⟩
def slices_Index_string_string.l0 : Nat → List ByteArray → ByteArray → Int → Int → Option (Int)
 | 0, _, _, _, _ => none
 | k + 1, x0, x1, x7, x8 => if x8 < x7 then (if 0 ≤ x8 then (if x8 < (x0.length : Int) then (if x1.toList = (rdOf ByteArray.empty x0 x8).toList then (some x8) else (slices_Index_string_string.l0 k x0 x1 x7 (wrap64 (x8 + 1)))) else (none)) else (none)) else (some (-1))
def slices_Index_string_string.f (k : Nat) (l0 : List ByteArray) (a1 : ByteArray) : Option (Int) := slices_Index_string_string.l0 k l0 a1 (l0.length : Int) 0
theorem slices_Index_string_string.mono_l : ∀ k, (∀ y0 y1 y2 y3, LeO (slices_Index_string_string.l0 k y0 y1 y2 y3) (slices_Index_string_string.l0 (k + 1) y0 y1 y2 y3))
 | 0 => fun _ _ _ _ r h => by simp [slices_Index_string_string.l0] at h
 | k + 1 => by
  have ih0 := slices_Index_string_string.mono_l k
  ·intro y0 y1 y2 y3
   unfold slices_Index_string_string.l0
   repeat' first
   | (with_reducible exact ih0 _ _ _ _)
   | (with_reducible exact LeO.refl _)
   | (with_reducible exact LeO.none _)
   | (with_reducible refine LeO.ite ?_ ?_)
   | (with_reducible refine LeO.bind ?_ (fun _ => ?_))
   | exact ih0 _ _ _ _
   | exact LeO.none _
   | refine LeO.ite ?_ ?_
   | refine LeO.bind ?_ (fun _ => ?_)
theorem slices_Index_string_string.mono : ∀ a0 a1 k, LeO (slices_Index_string_string.f k a0 a1) (slices_Index_string_string.f (k + 1) a0 a1) := by
 intro a0 a1 k
 have ih0 := slices_Index_string_string.mono_l k
 unfold slices_Index_string_string.f
 repeat' first
   | (with_reducible exact ih0 _ _ _ _)
   | (with_reducible exact LeO.refl _)
   | (with_reducible exact LeO.none _)
   | (with_reducible refine LeO.ite ?_ ?_)
   | (with_reducible refine LeO.bind ?_ (fun _ => ?_))
   | exact ih0 _ _ _ _
   | exact LeO.none _
   | refine LeO.ite ?_ ?_
   | refine LeO.bind ?_ (fun _ => ?_)
set_option maxHeartbeats 8000000 in
set_option maxRecDepth 100000 in
theorem slices_Index_string_string.calls (k : Nat) (A0 : Option Addr) (c0 : Nat) (l0 : List ByteArray) (a1 : ByteArray) (r : Int) (w : World) (hr0 : Kd.C Kd.string w A0 l0.length l0) (hc0 : l0.length ≤ c0) (h : slices_Index_string_string.f k l0 a1 = some r) :
  Calls Tryz.prog 49 #[.slice A0 l0.length c0, .string a1] w fun e w' => e = .returned (.int .i64 r) ∧ Drawn0 w w' := by
 have HR0 := Aside0.mk hr0
 have HC0 := Aside0.mk hc0
 clear hr0 hc0
 have H : (slices_Index_string_string.l0 k l0 a1 (l0.length : Int) 0) = some r := h
 clear h
 have H' := Aside0.mk H
 clear H
 go_enter Tryz.func49, Tryz.ntmps49
 go_wp2
 go_loopg [8] k (fun kq v8 w' => ∃ (x8_1 : Int), v8 = .int .i64 x8_1 ∧ Aside0 (slices_Index_string_string.l0 kq l0 a1 (l0.length : Int) x8_1 = some r) ∧ Aside0 (kq ≤ k) ∧ Drawn0 w w')
 case atStart => exact ⟨(0), (by first | rfl | (simp; done) | (simp [*]; done)), H', ⟨Nat.le_refl _⟩, by repeat (first | exact Drawn0.refl _ | apply Drawn0.step)⟩
 case round =>
  clear H'
  try clear p2
  obtain ⟨x8_1, rfl, HA, HK1, ⟨m1, rfl⟩⟩ := hrel
  cases gk with
  | zero => exact absurd HA.out (by simp [slices_Index_string_string.l0])
  | succ k1 =>
   have H := HA.out
   clear HA
   simp only [slices_Index_string_string.l0] at H
   by_cases c3 : x8_1 < (l0.length : Int)
   ·rw [if_pos c3] at H
    have c3b0 : decide (x8_1 < (l0.length : Int)) = true := decide_eq_true c3
    clear c3
    by_cases c4 : 0 ≤ x8_1
    ·rw [if_pos c4] at H
     have c4b0 : decide (0 ≤ x8_1) = true := decide_eq_true c4
     clear c4
     by_cases c5 : x8_1 < (l0.length : Int)
     ·rw [if_pos c5] at H
      have c5b0 : decide (x8_1 < (l0.length : Int)) = true := decide_eq_true c5
      clear c5
      by_cases c6 : a1.toList = (rdOf ByteArray.empty l0 x8_1).toList
      ·rw [if_pos c6] at H
       have c6b0 : (a1.toList == (rdOf ByteArray.empty l0 x8_1).toList) = true := beq_iff_eq.mpr c6
       have c6b1 : (a1.toList != (rdOf ByteArray.empty l0 x8_1).toList) = false := bne_eq_false_iff_eq.mpr c6
       clear c6
       obtain rfl := Option.some.inj H
       have p118 : 0 ≤ (x8_1 : Int) := od_
       have q118 : x8_1 < (l0.length : Int) := od_
       obtain ⟨ad118, e118, hx118_0⟩ := Kd.at_string HR0.out x8_1 p118 q118
       cases e118
       replace p118 := eq_true p118
       replace q118 := eq_true q118
       go_wp2
       go_ret
       exact ⟨by first | rfl | (simp; done) | (simp [*]; done), by repeat (first | exact Drawn0.refl _ | apply Drawn0.step)⟩
      ·rw [if_neg c6] at H
       have c6b0 : (a1.toList == (rdOf ByteArray.empty l0 x8_1).toList) = false := beq_eq_false_iff_ne.mpr c6
       have c6b1 : (a1.toList != (rdOf ByteArray.empty l0 x8_1).toList) = true := bne_iff_ne.mpr c6
       have H' := Aside0.mk H
       clear H
       have p118 : 0 ≤ (x8_1 : Int) := od_
       have q118 : x8_1 < (l0.length : Int) := od_
       obtain ⟨ad118, e118, hx118_0⟩ := Kd.at_string HR0.out x8_1 p118 q118
       cases e118
       replace p118 := eq_true p118
       replace q118 := eq_true q118
       go_wp2
       go_roundg k1
       case measure => have := HK1.out; omega
       case rel => exact ⟨(wrap64 (x8_1 + 1)), (by first | rfl | (simp; done) | (simp [*]; done)), H', ⟨by have := HK1.out; omega⟩, by repeat (first | exact Drawn0.refl _ | apply Drawn0.step)⟩
     ·rw [if_neg c5] at H
      exact absurd H (by simp)
    ·rw [if_neg c4] at H
     exact absurd H (by simp)
   ·rw [if_neg c3] at H
    have c3b0 : decide (x8_1 < (l0.length : Int)) = false := decide_eq_false c3
    clear c3
    obtain rfl := Option.some.inj H
    go_wp2
    go_ret
    exact ⟨by first | rfl | (simp; done) | (simp [*]; done), by repeat (first | exact Drawn0.refl _ | apply Drawn0.step)⟩
def slices_Contains_string_string.f (k : Nat) (l0 : List ByteArray) (a1 : ByteArray) : Option (Bool) := (slices_Index_string_string.f k l0 a1).bind fun t119 => (some (decide (t119 ≥ 0)))
theorem slices_Contains_string_string.mono : ∀ a0 a1 k, LeO (slices_Contains_string_string.f k a0 a1) (slices_Contains_string_string.f (k + 1) a0 a1) := by
 intro a0 a1 k
 unfold slices_Contains_string_string.f
 repeat' first
   | (with_reducible exact slices_Index_string_string.mono _ _ _)
   | (with_reducible exact LeO.refl _)
   | (with_reducible exact LeO.none _)
   | (with_reducible refine LeO.ite ?_ ?_)
   | (with_reducible refine LeO.bind ?_ (fun _ => ?_))
   | exact slices_Index_string_string.mono _ _ _
   | exact LeO.none _
   | refine LeO.ite ?_ ?_
   | refine LeO.bind ?_ (fun _ => ?_)
set_option maxHeartbeats 8000000 in
set_option maxRecDepth 100000 in
theorem slices_Contains_string_string.calls (k : Nat) (A0 : Option Addr) (c0 : Nat) (l0 : List ByteArray) (a1 : ByteArray) (r : Bool) (w : World) (hr0 : Kd.C Kd.string w A0 l0.length l0) (hc0 : l0.length ≤ c0) (h : slices_Contains_string_string.f k l0 a1 = some r) :
  Calls Tryz.prog 35 #[.slice A0 l0.length c0, .string a1] w fun e w' => e = .returned (.bool r) ∧ Drawn0 w w' := by
 have HR0 := Aside0.mk hr0
 have HC0 := Aside0.mk hc0
 clear hr0 hc0
 have H : ((slices_Index_string_string.f k l0 a1).bind fun t119 => (some (decide (t119 ≥ 0)))) = some r := h
 clear h
 replace H := Option.bind_eq_some_iff.mp H
 obtain ⟨t119, A30, H⟩ := H
 replace H : (some (decide (t119 ≥ 0))) = some r := H
 have A3 := Aside0.mk A30
 clear A30
 obtain rfl := Option.some.inj H
 go_enter Tryz.func35, Tryz.ntmps35
 go_wp2_with (first | ((with_reducible refine gate_callee (f := 49) rfl ?_); refine goesL_ (some 7) rfl rfl Tryz.func49 (by kernel_rfl) rfl #[.slice A0 l0.length c0, .string a1] rfl (by (try simp only [List.map_toArray, List.map_cons, List.map_nil]); first | done | rfl | (simp only [List.length_drop, List.length_take]; rfl)) ?_; (with_reducible refine (slices_Index_string_string.calls k _ _ l0 a1 t119 _ ?side1 ?side2 A3.out).mono ?_); (case side1 => repeat (first | exact HR0.out | (with_reducible refine Kd.C_alloc ?_ _) | (with_reducible refine Kd.C_drewN ?_ _) | (with_reducible refine Kd.C_drew ?_))); (case side2 => exact HC0.out); rintro e w' ⟨rfl, ⟨nd, rfl⟩⟩; refine ⟨_, rfl, ?_⟩))
 go_ret
 exact ⟨by first | rfl | (simp; done) | (simp [*]; done), by repeat (first | exact Drawn0.refl _ | apply Drawn0.step)⟩
def nat_Nat_IsZero.f (l0_0 : List Int) : Option (Bool) := some ((l0_0.length : Int) == 0)
set_option maxHeartbeats 8000000 in
set_option maxRecDepth 100000 in
theorem nat_Nat_IsZero.calls (A0_0 : Option Addr) (c0_0 : Nat) (l0_0 : List Int) (r : Bool) (w : World) (hr0_0 : Kd.C (Kd.int .u64) w A0_0 l0_0.length l0_0) (hc0_0 : l0_0.length ≤ c0_0) (h : nat_Nat_IsZero.f l0_0 = some r) :
  Calls Tryz.prog 113 #[.agg #[.slice A0_0 l0_0.length c0_0]] w fun e w' => e = .returned (.bool r) ∧ Below w.heap.size w w' := by
 have hu81 := Tryz.underlying81
 have HR0_0 := Aside0.mk hr0_0
 have HC0_0 := Aside0.mk hc0_0
 clear hr0_0 hc0_0
 have HB := Aside0.mk (Below.refl w.heap.size w)
 have H : (some ((l0_0.length : Int) == 0)) = some r := h
 clear h
 obtain rfl := Option.some.inj H
 go_enter Tryz.func113, Tryz.ntmps113
 go_wp2_with (first | ((with_reducible refine gate_dst (N := 1) rfl ?_); refine box_event ?hg (N := 1) ?hd (cs := #[.slice A0_0 l0_0.length c0_0]) (t := 81) ?hr ?_; (case hd => rfl); (case hg => rfl); (case hr => first | (go_simp; done) | (go_simp; rfl)); intro gb120 hg w2 hbox hb; have n0_ := Aside0.mk (below_step (hb0_ HB.out) hb); have n1_ := Aside0.mk (hbox); have n2_ := Aside0.mk ((by rw [hg]; exact (below_size (hb0_ HB.out)) : w.heap.size ≤ gb120)); have n3_ := Aside0.mk ((by rw [hg]; exact (below_size (hb0_ HB.out)) : w.heap.size ≤ gb120)); clear HB; have HB := n0_; have BK120 := n1_; have GW120 := n2_; have GE120 := n3_; clear n0_ n1_ n2_ n3_; clear hb hbox hg; obtain ⟨hcz3_0, hfz3_0⟩ := bx1 BK120.out))
 go_ret
 exact ⟨rf_, (hb1_ HB.out GE120.out)⟩
def whole_New.f (a0 : Bool) (l1 : List Int) : Option (Bool × List Int) := if a0 = true then none else some (false, l1)
theorem whole_New.calls (a0 : Bool) (P1_0_ : Nat → Prop) (A1_0 : Option Addr) (c1_0 : Nat) (l1_0 : List Int) (r1 : Bool) (r2 : List Int) (w : World) (hs1_0 : Kd.V (Kd.int .u64) 92 w w.heap.size (fun k_ => P1_0_ k_) (.slice A1_0 l1_0.length c1_0) l1_0) (h : whole_New.f a0 l1_0 = some (r1, r2)) :
  Calls Tryz.prog 108 #[.bool a0, .agg #[.slice A1_0 l1_0.length c1_0]] w fun e w' => ∃ v1_ : Value, e = .returned (.agg #[.bool r1, v1_]) ∧ Kd.V (Kd.int .u64) 92 w' w.heap.size (fun k_ => (P1_0_ k_ ∨ w.heap.size ≤ k_)) v1_ r2 ∧ Below w.heap.size w w' := by
 unfold whole_New.f at h
 split at h
 ·cases h
 ·rename_i hm
  obtain ⟨rfl, rfl⟩ := Prod.mk.inj (Option.some.inj h)
  obtain rfl : a0 = false := by simpa using hm
  refine (wnew_calls A1_0 l1_0.length c1_0 w).mono ?_
  rintro e w' ⟨rfl, hb⟩
  exact ⟨_, rfl, Kd.V_mono (Kd.V_below hs1_0 hb) (fun k hk => .inl hk), hb⟩
def limb_cut.f (l0 : List Int) : Option (List Int) := some (l0.take (upN l0 l0.length))
theorem limb_cut.calls (P0_ : Nat → Prop) (A0 : Option Addr) (c0 : Nat) (l0 r : List Int) (w : World) (hs0 : Kd.V (Kd.int .u64) 92 w w.heap.size (fun k_ => P0_ k_) (.slice A0 l0.length c0) l0) (h : limb_cut.f l0 = some r) :
  Calls Tryz.prog 155 #[.slice A0 l0.length c0] w fun e w' => ∃ v0_ : Value, e = .returned v0_ ∧ Kd.V (Kd.int .u64) 92 w' w.heap.size (fun k_ => (P0_ k_ ∨ w.heap.size ≤ k_)) v0_ r ∧ Below w.heap.size w w' := by
 obtain rfl := Option.some.inj h
 obtain ⟨_, hc, hF⟩ := Kd.V_at hs0
 have hle := upN_le l0 l0.length
 refine (cut_calls A0 c0 l0 w (Kd.F_now hF) hc).mono ?_
 rintro e w' ⟨rfl, hb⟩
 have hl : (l0.take (upN l0 l0.length)).length = upN l0 l0.length := by rw [List.length_take]; omega
 refine ⟨_, rfl, ⟨A0, c0, by rw [hl], by rw [hl]; omega, ?_⟩, hb⟩
 exact Kd.F_mono (Kd.F_below (Kd.F_take hF hle) hb) (fun k hk => .inl hk)
def limb_Trim.f (l0 : List Int) : Option (List Int) := if upN l0 l0.length ≤ 4096 then some (l0.take (upN l0 l0.length)) else none
theorem limb_Trim.calls (A0 : Option Addr) (c0 : Nat) (l0 r : List Int) (w : World) (hr0 : Kd.C (Kd.int .u64) w A0 l0.length l0) (hc0 : l0.length ≤ c0) (h : limb_Trim.f l0 = some r) :
  Calls Tryz.prog 132 #[.slice A0 l0.length c0] w fun e w' => ∃ v0_ : Value, e = .returned v0_ ∧ Kd.V (Kd.int .u64) 92 w' w.heap.size (fun k_ => (w.heap.size ≤ k_)) v0_ r ∧ Below w.heap.size w w' := by
 unfold limb_Trim.f at h
 split at h
 ·rename_i hm
  obtain rfl := Option.some.inj h
  have hle := upN_le l0 l0.length
  refine (trim_calls A0 c0 l0 w hr0 hc0 hm).mono ?_
  rintro e w' ⟨A', c', rfl, hl, hF, hb⟩
  have hl2 : (l0.take (upN l0 l0.length)).length = upN l0 l0.length := by rw [List.length_take]; omega
  exact ⟨_, rfl, ⟨A', c', by rw [hl2], by rw [hl2]; exact hl, by rw [hl2]; exact hF⟩, hb⟩
 ·cases h
def nat_Small.f (a0 : Int) : Option (List Int) := (limb_Trim.f (([a0] : List Int))).bind fun t125 => (some t125)
set_option maxHeartbeats 8000000 in
set_option maxRecDepth 100000 in
theorem nat_Small.calls (a0 : Int) (r : List Int) (w : World) (h : nat_Small.f a0 = some r) :
  Calls Tryz.prog 109 #[.int .u64 a0] w fun e w' => ∃ v0_ : Value, e = .returned (.agg #[v0_]) ∧ Kd.V (Kd.int .u64) 92 w' w.heap.size (fun k_ => (w.heap.size ≤ k_)) v0_ r ∧ Below w.heap.size w w' := by
 have hu81 := Tryz.underlying81
 have HB := Aside0.mk (Below.refl w.heap.size w)
 have H : ((limb_Trim.f (([a0] : List Int))).bind fun t125 => (some t125)) = some r := h
 clear h
 obtain ⟨y122, hy122⟩ : ∃ y_ : List Int, y_ = (([a0] : List Int)) := ⟨_, rfl⟩
 replace H : ((limb_Trim.f y122).bind fun t125 => (some t125)) = some r := by first | (rw [hy122]; with_reducible exact H) | (have H2_ := (Option.bind_some _ _).symm.trans H; rw [hy122]; with_reducible exact H2_) | (have H2_ := (Option.bind_some _ _).symm.trans H; with_reducible exact H2_) | with_reducible exact H | (rw [hy122]; exact H) | exact H
 have Ny122 := Aside0.mk hy122
 clear hy122
 replace H := Option.bind_eq_some_iff.mp H
 obtain ⟨t125, A20, H⟩ := H
 replace H : (some t125) = some r := H
 have A2 := Aside0.mk A20
 clear A20
 obtain rfl := Option.some.inj H
 go_enter Tryz.func109, Tryz.ntmps109
 go_wp2_with (first | ((with_reducible refine gate_dst (N := 2) rfl ?_); refine box_event ?hg (N := 2) ?hd (cs := #[.slice none 0 0]) (t := 81) ?hr ?_; (case hd => rfl); (case hg => rfl); (case hr => first | (go_simp; done) | (go_simp; rfl)); intro gb121 hg w3 hbox hb; have n0_ := Aside0.mk (below_step (hb0_ HB.out) hb); have n1_ := Aside0.mk (hbox); have n2_ := Aside0.mk ((by rw [hg]; exact (below_size (hb0_ HB.out)) : w.heap.size ≤ gb121)); have n3_ := Aside0.mk ((by rw [hg]; exact (below_size (hb0_ HB.out)) : w.heap.size ≤ gb121)); clear HB; have HB := n0_; have BK121 := n1_; have GW121 := n2_; have GE121 := n3_; clear n0_ n1_ n2_ n3_; clear hb hbox hg) | ((with_reducible refine gate_dst (N := 4) rfl ?_); refine Kd.R_lit (Kd.int .u64) _ 92 ?hg (N := 4) ?hd (xs := ([a0] : List Int)) (inner := [.int .u64 a0]) (ok := fun _ => True) (okp := fun _ => True) ?hr ?hp (fun _ hk => hk) trivial (Below.refl _ _) (Nat.le_refl _) (by simp) ?_; (case hd => rfl); (case hg => rfl); (case hr => first | (go_simp; done) | (go_simp; rfl)); (case hp => exact (Reps.one (show Kd.M (Kd.int .u64) _ _ _ a0 [.int .u64 a0] from rfl) (Reps.none _ _))); intro v123 w4 ho5 hb hg_ hnew_; clear hg_ hnew_; (first | rw [← Ny122.out] at ho5 | (simp only [Int.reduceToNat] at ho5; rw [← Ny122.out] at ho5)); have n0_ := Aside0.mk (Kd.R_lower (Kd.R_newM (M := fun k_ => (w.heap.size ≤ k_)) ho5 (below_size (hb1_ HB.out GE121.out)) (fun k_ h_ => h_)) (below_size (hb1_ HB.out GE121.out))); have n1_ := Aside0.mk (blk_below (g := gb121) (o := .cells #[.slice none 0 0] 81 (0, 0)) (ph_ BK121.out) hb); have n2_ := Aside0.mk (below_step (hb1_ HB.out GE121.out) hb); clear BK121; clear HB; have HO124 := n0_; have BK121 := n1_; have HB := n2_; clear n0_ n1_ n2_; clear hb ho5; obtain ⟨Ao6, co6, eo6⟩ := Kd.R_slice HO124.out; subst eo6) | ((with_reducible refine gate_callee (f := 132) rfl ?_); refine goesL_ (some 5) rfl rfl Tryz.func132 (by kernel_rfl) rfl #[.slice Ao6 y122.length co6] rfl (by (try simp only [List.map_toArray, List.map_cons, List.map_nil]); first | done | rfl | (simp only [List.length_drop, List.length_take]; rfl)) ?_; (with_reducible refine (limb_Trim.calls _ _ y122 t125 _ ?side1 ?side2 A2.out).mono ?_); (case side1 => repeat (first | exact (Kd.R_reads' HO124.out).2.2 | (with_reducible refine Kd.C_alloc ?_ _) | (with_reducible refine Kd.C_drewN ?_ _) | (with_reducible refine Kd.C_drew ?_))); (case side2 => exact (Kd.R_reads' HO124.out).2.1); rintro e w7 ⟨v126, rfl, ho0, hb⟩; refine ⟨_, rfl, ?_⟩; have n0_ := Aside0.mk (Kd.R_below (by (with_reducible repeat (first | apply Kd.R_alloc | apply Kd.R_drewN | apply Kd.R_drew)); exact HO124.out) hb); have n1_ := Aside0.mk (Kd.V_lower (Kd.V_mono (ok' := fun k_ => (w.heap.size ≤ k_) ∧ some k_ ≠ (.slice Ao6 y122.length co6 : Value).ownBlock ∧ k_ ≠ gb121) ho0 (fun k_ hk_ => ⟨(Nat.le_trans (below_size (hb1_ HB.out GE121.out)) hk_), (Kd.fresh' (Kd.R_lt (by (with_reducible repeat (first | apply Kd.R_alloc | apply Kd.R_drewN | apply Kd.R_drew)); exact HO124.out)) k_ hk_), (Kd.freshB (g := gb121) (o := .cells #[.slice none 0 0] 81 (0, 0)) (ph_ BK121.out) k_ hk_)⟩)) (below_size (hb1_ HB.out GE121.out))); have n2_ := Aside0.mk (blk_below (g := gb121) (o := .cells #[.slice none 0 0] 81 (0, 0)) (ph_ BK121.out) hb); have n3_ := Aside0.mk (below_step (hb1_ HB.out GE121.out) hb); clear HO124; clear BK121; clear HB; have HO124 := n0_; have HO127 := n1_; have BK121 := n2_; have HB := n3_; clear n0_ n1_ n2_ n3_; (try clear hb); (try clear hb2); (try clear hk); (try clear hi); (try clear ho0); obtain ⟨Ao8, co8, eo8⟩ := Kd.V_slice HO127.out; subst eo8; obtain ⟨hcz9_0, hfz9_0⟩ := bx1 BK121.out))
 refine bodyPost_ret (results_cell_row rfl _ _ gb121 81 #[.slice Ao8 t125.length co8] (0, 0) _ rfl (by (with_reducible repeat (first | refine blk_drewN ?_ _ | refine blk_drew ?_ | refine blk_alloc ?_ _)); refine blk_put (cs := #[.slice none 0 0]) ?_ 0 _ rfl; (with_reducible repeat (first | refine blk_drewN ?_ _ | refine blk_drew ?_ | refine blk_alloc ?_ _)); exact BK121.out) Tryz.underlying81 rfl (by kernel_rfl)) rfl ?_
 exact ⟨_, rf_, by (with_reducible repeat (first | apply Kd.V_alloc | apply Kd.V_drewN | apply Kd.V_drew)); exact Kd.V_mono (Kd.V_far (p := ⟨gb121, 0, none⟩) (Kd.V_mono HO127.out (fun k_ hk => (⟨hk, hk.2.2⟩ : _ ∧ k_ ≠ gb121))) (fun _ hk => hk.2) (.slice Ao8 t125.length co8)) (fun _ hk => hk.1.1), (hb1_ HB.out GE121.out)⟩
def nat_held.f (l0 : List Int) : Option (List Int × Int) := if upN l0 l0.length ≤ 4096 then some (l0.take (upN l0 l0.length), 0) else none
theorem nat_held.calls (P0_ : Nat → Prop) (A0 : Option Addr) (c0 : Nat) (l0 r1 : List Int) (r2 : Int) (w : World) (hs0 : Kd.V (Kd.int .u64) 92 w w.heap.size (fun k_ => P0_ k_) (.slice A0 l0.length c0) l0) (h : nat_held.f l0 = some (r1, r2)) :
  Calls Tryz.prog 147 #[.slice A0 l0.length c0] w fun e w' => ∃ v0_ : Value, e = .returned (.tuple #[.agg #[v0_], .int .i64 r2]) ∧ Kd.V (Kd.int .u64) 92 w' w.heap.size (fun k_ => (P0_ k_ ∨ w.heap.size ≤ k_)) v0_ r1 ∧ Below w.heap.size w w' := by
 unfold nat_held.f at h
 split at h
 ·rename_i hm
  obtain ⟨rfl, rfl⟩ := Prod.mk.inj (Option.some.inj h)
  obtain ⟨_, hc, hF⟩ := Kd.V_at hs0
  have hle := upN_le l0 l0.length
  refine (held_calls A0 c0 l0 w (Kd.F_now hF) hc hm).mono ?_
  rintro e w' ⟨rfl, hb⟩
  have hl : (l0.take (upN l0 l0.length)).length = upN l0 l0.length := by rw [List.length_take]; omega
  exact ⟨_, rfl, ⟨A0, _, by rw [hl], by rw [hl]; exact Nat.le_refl _, Kd.F_mono (Kd.F_below (Kd.F_take hF hle) hb) (fun k hk => .inl hk)⟩, hb⟩
 ·cases h
def bits_Mul64.f (a0 a1 : Int) : Option (Int × Int) := if (0 ≤ a0 ∧ a0 < 18446744073709551616) ∧ 0 ≤ a1 ∧ a1 < 18446744073709551616 then some (a0 * a1 / 18446744073709551616, a0 * a1 % 18446744073709551616) else none
theorem bits_Mul64.calls (a0 a1 r1 r2 : Int) (w : World) (h : bits_Mul64.f a0 a1 = some (r1, r2)) :
  Calls Tryz.prog 171 #[.int .u64 a0, .int .u64 a1] w fun e w' => e = .returned (.tuple #[.int .u64 r1, .int .u64 r2]) ∧ Drawn0 w w' := by
 unfold bits_Mul64.f at h
 split at h
 ·rename_i hc
  obtain ⟨⟨h1, h2⟩, h3, h4⟩ := hc
  obtain ⟨x, rfl⟩ := Int.eq_ofNat_of_zero_le h1
  obtain ⟨y, rfl⟩ := Int.eq_ofNat_of_zero_le h3
  obtain ⟨rfl, rfl⟩ := Prod.mk.inj (Option.some.inj h)
  refine (Tryz.bits_Mul64 x y (by omega) (by omega) w).mono fun e w' ⟨he, hw⟩ => ⟨?_, hw ▸ Drawn0.refl w⟩
  rw [he]
  simp only [Int.natCast_ediv, Int.natCast_emod, Int.natCast_mul]
  rfl
 ·cases h
def limb_Mul.f (a0 : Int) (a1 : Int) : Option (Int × Int) := (bits_Mul64.f a0 a1).bind fun bt128 => (some (bt128.1, bt128.2))
set_option maxHeartbeats 8000000 in
set_option maxRecDepth 100000 in
theorem limb_Mul.calls (a0 : Int) (a1 : Int) (r1 : Int) (r2 : Int) (w : World) (h : limb_Mul.f a0 a1 = some (r1, r2)) :
  Calls Tryz.prog 156 #[.int .u64 a0, .int .u64 a1] w fun e w' => e = .returned (.tuple #[.int .u64 r1, .int .u64 r2]) ∧ Drawn0 w w' := by
 have H : ((bits_Mul64.f a0 a1).bind fun bt128 => (some (bt128.1, bt128.2))) = some (r1, r2) := h
 clear h
 replace H := Option.bind_eq_some_iff.mp H
 obtain ⟨⟨t128, t129⟩, A30, H⟩ := H
 replace H : (some (t128, t129)) = some (r1, r2) := H
 have A3 := Aside0.mk A30
 clear A30
 simp only [Option.some.injEq, Prod.mk.injEq] at H
 obtain ⟨rfl, rfl⟩ := H
 go_enter Tryz.func156, Tryz.ntmps156
 go_wp2_with (first | ((with_reducible refine gate_callee (f := 171) rfl ?_); refine goesL_ (some 8) rfl rfl Tryz.func171 (by kernel_rfl) rfl #[.int .u64 a0, .int .u64 a1] rfl (by (try simp only [List.map_toArray, List.map_cons, List.map_nil]); first | done | rfl | (simp only [List.length_drop, List.length_take]; rfl)) ?_; (with_reducible refine (bits_Mul64.calls a0 a1 t128 t129 _ A3.out).mono ?_); rintro e w' ⟨rfl, ⟨nd, rfl⟩⟩; refine ⟨_, rfl, ?_⟩))
 go_ret2
 exact ⟨by first | rfl | (simp; done) | (simp [*]; done), by repeat (first | exact Drawn0.refl _ | apply Drawn0.step)⟩
theorem add64_law (x y c : Nat) (hx : x < 18446744073709551616) (hy : y < 18446744073709551616) (hc : c ≤ 1) (w : World) :
  (callFunc 172 #[.int .u64 (x : Int), .int .u64 (y : Int), .int .u64 (c : Int)]).run Tryz.prog w =
   .ok (.value (.tuple #[.int .u64 (((x + y + c) % 18446744073709551616 : Nat) : Int), .int .u64 (((x + y + c) / 18446744073709551616 : Nat) : Int)])) w := by
 rw [run_callFunc_extern Tryz.func172 (by kernel_rfl) (by kernel_rfl) (by kernel_rfl) (e := add64Entry) (by kernel_rfl), run_add64 x y c (by omega) (by omega) (by omega) (by omega)]
 simp only [Result.andThen]
 congr 5 <;> omega
theorem add64_nought (x y : Nat) (hx : x < 18446744073709551616) (hy : y < 18446744073709551616) (w : World) :
  (callFunc 172 #[.int .u64 (x : Int), .int .u64 (y : Int), .int .u64 0]).run Tryz.prog w =
   .ok (.value (.tuple #[.int .u64 (((x + y) % 18446744073709551616 : Nat) : Int), .int .u64 (((x + y) / 18446744073709551616 : Nat) : Int)])) w := add64_law x y 0 hx hy (by omega) w
def limb_Add.f (a0 a1 a2 : Int) : Option (Int × Int) := if (0 ≤ a0 ∧ a0 < 18446744073709551616) ∧ (0 ≤ a1 ∧ a1 < 18446744073709551616) ∧ 0 ≤ a2 ∧ a2 < 18446744073709551616 then some ((a0 + a1 + a2) % 18446744073709551616, (a0 + a1 + a2) / 18446744073709551616) else none
set_option maxRecDepth 100000 in
theorem limb_Add.calls (a0 a1 a2 r1 r2 : Int) (w : World) (h : limb_Add.f a0 a1 a2 = some (r1, r2)) :
  Calls Tryz.prog 157 #[.int .u64 a0, .int .u64 a1, .int .u64 a2] w fun e w' => e = .returned (.tuple #[.int .u64 r1, .int .u64 r2]) ∧ Drawn0 w w' := by
 unfold limb_Add.f at h
 split at h
 ·rename_i hc
  obtain ⟨⟨h1, h2⟩, ⟨h3, h4⟩, h5, h6⟩ := hc
  obtain ⟨x, rfl⟩ := Int.eq_ofNat_of_zero_le h1
  obtain ⟨y, rfl⟩ := Int.eq_ofNat_of_zero_le h3
  obtain ⟨c, rfl⟩ := Int.eq_ofNat_of_zero_le h5
  obtain ⟨rfl, rfl⟩ := Prod.mk.inj (Option.some.inj h)
  have e1 := fun W => add64_nought x y (by omega) (by omega) W
  obtain ⟨s, hs⟩ : ∃ s, (x + y) % 18446744073709551616 = s := ⟨_, rfl⟩
  obtain ⟨o, ho⟩ : ∃ o, (x + y) / 18446744073709551616 = o := ⟨_, rfl⟩
  rw [hs, ho] at e1
  have e2 := fun W => add64_nought s c (by omega) (by omega) W
  obtain ⟨s2, hs2⟩ : ∃ s2, (s + c) % 18446744073709551616 = s2 := ⟨_, rfl⟩
  obtain ⟨o2, ho2⟩ : ∃ o2, (s + c) / 18446744073709551616 = o2 := ⟨_, rfl⟩
  rw [hs2, ho2] at e2
  have q1 : ((x : Int) + (y : Int) + (c : Int)) % 18446744073709551616 = (s2 : Int) := by omega
  have q2 : IntKind.u64.wrap ((o : Int) + (o2 : Int)) = ((x : Int) + (y : Int) + (c : Int)) / 18446744073709551616 := by rw [IntKind.wrap_u64]; omega
  rw [← q2, q1]
  clear q1 q2 hs ho hs2 ho2
  go_enter Tryz.func157, Tryz.ntmps157
  go_wp2_with (first | simp only [e1] | simp only [e2])
  go_ret2
  exact ⟨rfl, Drawn0.refl w⟩
 ·cases h
def whole_b2i.f (a0 : Bool) : Option (Int) := if a0 = true then (some 1) else (some 0)
set_option maxHeartbeats 8000000 in
set_option maxRecDepth 100000 in
theorem whole_b2i.calls (a0 : Bool) (r : Int) (w : World) (h : whole_b2i.f a0 = some r) :
  Calls Tryz.prog 110 #[.bool a0] w fun e w' => e = .returned (.int .i64 r) ∧ Drawn0 w w' := by
 have H : (if a0 = true then (some 1) else (some 0)) = some r := h
 clear h
 by_cases c2 : a0 = true
 ·subst c2
  have H1 : (some 1) = some r := by rw [if_pos rfl] at H; exact H
  clear H
  have H := H1
  clear H1
  obtain rfl := Option.some.inj H
  go_enter Tryz.func110, Tryz.ntmps110
  go_wp2
  go_ret
  exact ⟨by first | rfl | (simp; done) | (simp [*]; done), by repeat (first | exact Drawn0.refl _ | apply Drawn0.step)⟩
 ·replace c2 := Bool.eq_false_iff.mpr c2
  subst c2
  have H1 : (some 0) = some r := by rw [if_neg (show ¬ (false = true) by decide)] at H; exact H
  clear H
  have H := H1
  clear H1
  obtain rfl := Option.some.inj H
  go_enter Tryz.func110, Tryz.ntmps110
  go_wp2
  go_ret
  exact ⟨by first | rfl | (simp; done) | (simp [*]; done), by repeat (first | exact Drawn0.refl _ | apply Drawn0.step)⟩
end Go.Proofs.YtlboolhjfffppaaGreatDoor.PBLI
