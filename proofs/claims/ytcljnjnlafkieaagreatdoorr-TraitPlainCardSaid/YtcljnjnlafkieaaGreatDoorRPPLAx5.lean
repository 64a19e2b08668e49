-- Written by this session's program (wip/tools/pr.py over the kit's print).
import Derived.Test.YtcljnjnlafkieaaGreatDoorRPh
import Derived.Test.YtcljnjnlafkieaaGreatDoorRPPLAx0
import Derived.Test.YtcljnjnlafkieaaGreatDoorRPPLAx4
namespace Go.Proofs.YtcljnjnlafkieaaGreatDoorR.PPLA
open Go.RowKit Go.Proofs.YtcljnjnlafkieaaGreatDoorRW.PrintWords Go.Proofs.YtcljnjnlafkieaaGreatDoorRW.PrintLast Go.Proofs.YtcljnjnlafkieaaGreatDoorRW.PrintMore
attribute [local go_sem] max2_int min2_int max_two min_two max_three min_three max_four min_four
set_option linter.unusedVariables false
set_option linter.unusedSimpArgs false
def kidsF (T : Nat → Option (Bool × Nat)) : Nat → Nat → Option (Bool × Nat)
 | 0, i => some (true, i)
 | m + 1, i => (T i).bind fun x => if x.1 = true then kidsF T m x.2 else some (false, x.2)
def treeF (K : Nat) (l : List S45) : Nat → Int → Int → Nat → Option (Bool × Nat)
 | 0, _, _, _ => none
 | d + 1, deep, under, i =>
  if i = l.length then some (false, i) else if 16 < deep then some (false, i) else
  (traits_formed.f K (rd_T45 l (i : Int)).f0 (rd_T45 l (i : Int)).f1 (rd_T45 l (i : Int)).f2 (rd_T45 l (i : Int)).f3 (rd_T45 l (i : Int)).f4.f0 (rd_T45 l (i : Int)).f4.f1).bind fun ok =>
   if ok = true then
    if (rd_T45 l (i : Int)).f0 = under ∧ under ≠ 3 then some (false, i + 1)
    else kidsF (treeF K l d (deep + 1) (rd_T45 l (i : Int)).f0) (rd_T45 l (i : Int)).f1.toNat (i + 1)
   else some (false, i + 1)
theorem kidsF_lt (T : Nat → Option (Bool × Nat)) (hT : ∀ i r j, T i = some (r, j) → i ≤ j) : ∀ m i r j, kidsF T m i = some (r, j) → i ≤ j
 | 0, i, r, j, h => by
  obtain ⟨_, rfl⟩ := Prod.mk.inj (Option.some.inj h); exact Nat.le_refl _
 | m + 1, i, r, j, h => by
  rw [kidsF] at h
  obtain ⟨⟨b, i2⟩, h1, h⟩ := Option.bind_eq_some_iff.mp h
  have := hT _ _ _ h1
  cases b with
  | false => obtain ⟨_, rfl⟩ := Prod.mk.inj (Option.some.inj h); exact this
  | true => exact Nat.le_trans this (kidsF_lt T hT m i2 r j h)
theorem treeF_lt (K : Nat) (l : List S45) : ∀ (d : Nat) (deep under : Int) (i : Nat) (r : Bool) (j : Nat), treeF K l d deep under i = some (r, j) → i ≤ j ∧ (r = true → i < j)
 | 0, _, _, _, _, _, h => by simp [treeF] at h
 | d + 1, deep, under, i, r, j, h => by
  rw [treeF] at h
  split at h
  ·obtain ⟨rfl, rfl⟩ := Prod.mk.inj (Option.some.inj h); exact ⟨Nat.le_refl _, fun q => by cases q⟩
  ·split at h
   ·obtain ⟨rfl, rfl⟩ := Prod.mk.inj (Option.some.inj h); exact ⟨Nat.le_refl _, fun q => by cases q⟩
   ·obtain ⟨ok, _, h⟩ := Option.bind_eq_some_iff.mp h
    split at h
    ·split at h
     ·obtain ⟨rfl, rfl⟩ := Prod.mk.inj (Option.some.inj h); exact ⟨Nat.le_succ _, fun q => by cases q⟩
     ·have := kidsF_lt _ (fun i r j h => (treeF_lt K l d _ _ i r j h).1) _ _ _ _ h
      exact ⟨by omega, fun _ => by omega⟩
    ·obtain ⟨rfl, rfl⟩ := Prod.mk.inj (Option.some.inj h); exact ⟨Nat.le_succ _, fun q => by cases q⟩
def traits_Check.f (k : Nat) (l0 : List S45) : Option Int :=
 if l0.length = 0 then some 0 else if 64 < l0.length then some 131 else (treeF k l0 20 1 0 0).map fun x => if x.1 = true ∧ x.2 = l0.length then 0 else 131
structure TB (w : World) (a n t : Nat) (A0 : Option Addr) (len c0 : Nat) (i : Nat) : Prop where
 at_ : w.heap[a]? = some (.cells #[.int .i64 (i : Int)] 3 (0, 0))
 nodes : w.heap[n]? = some (.cells #[.slice A0 len c0] 22 (0, 0))
 tree : w.heap[t]? = some (.cells #[.func (.func 28) #[] #[.pointer (some ⟨a, 0, none⟩), .pointer (some ⟨n, 0, none⟩), .pointer (some ⟨t, 0, none⟩)]] 60 (0, 0))
theorem TB.na {w : World} {a n t : Nat} {A0 : Option Addr} {len c0 i : Nat} (h : TB w a n t A0 len c0 i) : n ≠ a := fun e => by
 have h1 := h.nodes; rw [e, h.at_] at h1; simp at h1
theorem TB.ta {w : World} {a n t : Nat} {A0 : Option Addr} {len c0 i : Nat} (h : TB w a n t A0 len c0 i) : t ≠ a := fun e => by
 have h1 := h.tree; rw [e, h.at_] at h1; simp at h1
theorem TB.on {w w' : World} {a n t : Nat} {A0 : Option Addr} {len c0 i i' : Nat} (h : TB w a n t A0 len c0 i) (hg : w.grownBy w' (some a)) (ha : w'.heap[a]? = some (.cells #[.int .i64 (i' : Int)] 3 (0, 0))) : TB w' a n t A0 len c0 i' :=
 ⟨ha, (hg.block n (lt_of_block h.nodes) (by have := h.na; simpa using this)).trans h.nodes, (hg.block t (lt_of_block h.tree) (by have := h.ta; simpa using this)).trans h.tree⟩
theorem grown_refl (w : World) (row : Option Nat) : w.grownBy w row := ⟨rfl, rfl, rfl, Nat.le_refl _, fun _ _ _ => rfl⟩
theorem below_sp {a : Nat} {w0 w : World} (hb : Below w0.heap.size w0 w) (ha : w0.heap.size ≤ a) (v : Value) (o : Obj) : Below w0.heap.size w0 ((w.setCell ⟨a, 0, none⟩ v).alloc o) :=
 (hb.setCell (by show w0.heap.size ≤ a; exact ha) v).alloc (by have := hb.size; simpa using this) o
theorem after_sa {w w' : World} {a : Nat} {u v : Value} {o : Obj} (hA : w.heap[a]? = some (.cells #[u] 3 (0, 0))) (hb2 : Below ((w.setCell ⟨a, 0, none⟩ v).alloc o).heap.size ((w.setCell ⟨a, 0, none⟩ v).alloc o) w') :
  w.grownBy w' (some a) ∧ w'.heap[a]? = some (.cells #[v] 3 (0, 0)) ∧ w'.heap[w.heap.size]? = some o := by
 have hlt := lt_of_block hA
 have hs : (w.setCell ⟨a, 0, none⟩ v).heap.size = w.heap.size := by simp
 have hsz : ((w.setCell ⟨a, 0, none⟩ v).alloc o).heap.size = w.heap.size + 1 := by simp
 have h1 : ∀ k, k < w.heap.size → ((w.setCell ⟨a, 0, none⟩ v).alloc o).heap[k]? = (w.setCell ⟨a, 0, none⟩ v).heap[k]? := fun k hk => Below.heap_alloc _ _ _ (by rw [hs]; exact hk)
 refine ⟨⟨?_, ?_, ?_, ?_, fun k hk hne => ?_⟩, ?_, ?_⟩
 ·exact hb2.os.trans ((Below.refl 0 w).setCell (Nat.zero_le _) v |>.alloc (Nat.zero_le _) o).os
 ·exact hb2.tape.trans ((Below.refl 0 w).setCell (Nat.zero_le _) v |>.alloc (Nat.zero_le _) o).tape
 ·exact hb2.output.trans ((Below.refl 0 w).setCell (Nat.zero_le _) v |>.alloc (Nat.zero_le _) o).output
 ·have := hb2.size; rw [hsz] at this; omega
 ·exact (hb2.block k (by rw [hsz]; omega)).trans ((h1 k hk).trans (Below.heap_setCell _ _ _ _ (by show k ≠ a; intro e; exact hne (by rw [e]))))
 ·exact (hb2.block a (by rw [hsz]; omega)).trans ((h1 a hlt).trans (one_setCell hA))
 ·have h2 := (MapKept.heap_alloc (w.setCell ⟨a, 0, none⟩ v) o).1
  rw [hs] at h2
  exact (hb2.block w.heap.size (by rw [hsz]; omega)).trans h2
set_option maxRecDepth 100000 in
set_option maxHeartbeats 4000000 in
theorem tree_calls (K : Nat) (w0 : World) (l : List S45) (A0 : Option Addr) (c0 : Nat) (hC : Kd.C k45 w0 A0 l.length l) (hl : l.length ≤ 64) (hG : GT w0) (a n t : Nat) (ha : w0.heap.size ≤ a) :
  ∀ (d : Nat) (deep under : Int) (i : Nat) (r : Bool) (j : Nat) (w : World), 0 ≤ deep → i ≤ l.length → treeF K l d deep under i = some (r, j) → Below w0.heap.size w0 w → TB w a n t A0 l.length c0 i →
   Calls Tryz.prog 28 #[.int .i64 deep, .int .i64 under, .pointer (some ⟨a, 0, none⟩), .pointer (some ⟨n, 0, none⟩), .pointer (some ⟨t, 0, none⟩)] w fun e w' =>
    e = .returned (.bool r) ∧ w.grownBy w' (some a) ∧ j ≤ l.length ∧ w'.heap[a]? = some (.cells #[.int .i64 (j : Int)] 3 (0, 0))
 | 0, _, _, _, _, _, _, _, _, h, _, _ => by simp [treeF] at h
 | d + 1, deep, under, i, r, j, w, hd, hi, h, hb, hT => by
  have ih := tree_calls K w0 l A0 c0 hC hl hG a n t ha d
  have hcA := cell_of_one hT.at_
  have hfA := free_of_one hT.at_
  have hcN := cell_of_one hT.nodes
  have hcT := cell_of_one hT.tree
  have hltA := lt_of_block hT.at_
  have hcA1 : ∀ o, (w.alloc o).cell? ⟨a, 0, none⟩ = some (.int .i64 (i : Int)) := fun o => (((Below.refl w.heap.size w).alloc (Nat.le_refl _) o).cell hltA).trans hcA
  have hfA1 : ∀ o, (w.alloc o).frozen? ⟨a, 0, none⟩ = false := fun o => (((Below.refl w.heap.size w).alloc (Nat.le_refl _) o).frozen hltA).trans hfA
  have hne1 : ¬ a = w.heap.size := by omega
  have hne2 : ¬ w.heap.size = a := by omega
  rw [treeF] at h
  by_cases c1 : i = l.length
  ·rw [if_pos c1] at h
   obtain ⟨rfl, rfl⟩ := Prod.mk.inj (Option.some.inj h)
   subst c1
   go_enter Tryz.func28, Tryz.ntmps28
   go_wp2
   go_ret
   exact ⟨rfl, by first | exact ⟨grown_refl _ _, hi, hT.at_⟩ | exact ⟨grown_refl _ _, hT.at_⟩⟩
  ·rw [if_neg c1] at h
   have c1z : ¬ (i : Int) = (l.length : Int) := by omega
   have c1y : ¬ (l.length : Int) = (i : Int) := by omega
   have c1x : ((i : Int) == (l.length : Int)) = false := beq_eq_false_iff_ne.2 c1z
   have hi64 : (i : Int) < 64 := by omega
   by_cases c2 : 16 < deep
   ·rw [if_pos c2] at h
    obtain ⟨rfl, rfl⟩ := Prod.mk.inj (Option.some.inj h)
    go_enter Tryz.func28, Tryz.ntmps28
    go_wp2
    go_ret
    exact ⟨rfl, by first | exact ⟨grown_refl _ _, hi, hT.at_⟩ | exact ⟨grown_refl _ _, hT.at_⟩⟩
   ·rw [if_neg c2] at h
    have c2z : deep ≤ 16 := by omega
    have hi0 : 0 ≤ (i : Int) := by omega
    have hiz : (i : Int) < (l.length : Int) := by omega
    obtain ⟨ad, rfl, x0, x1, x2, x3, x4, x5⟩ := at_T45 (Kd.C_below hC hb) (i : Int) hi0 hiz
    obtain ⟨m, hm⟩ : ∃ m, rd_T45 l (i : Int) = m := ⟨_, rfl⟩
    rw [hm] at x0 x1 x2 x3 x4 x5 h
    simp only [Int.toNat_natCast] at x0 x1 x2 x3 x4 x5
    obtain ⟨ok, hok, h⟩ := Option.bind_eq_some_iff.mp h
    cases ok with
    | false =>
     obtain ⟨rfl, rfl⟩ := Prod.mk.inj (Option.some.inj h)
     go_enter Tryz.func28, Tryz.ntmps28
     go_wp2_with (go_at_call 29; go_must (refine (traits_formed.calls K m.f0 m.f1 m.f2 m.f3 m.f4.f0 m.f4.f1 _ _ hok (hG.at (below_sp hb ha _ _))).mono ?_; rintro e w' ⟨rfl, hb2⟩; obtain ⟨hgr, hat, hS⟩ := after_sa hT.at_ hb2; have hs0 : w'.cell? ⟨w.heap.size, 0, none⟩ = some (.int .i64 m.f0) := (Joins.cell_of_block hS 0).trans rfl; have hs1 : w'.cell? ⟨w.heap.size, 1, none⟩ = some (.int .i64 m.f1) := (Joins.cell_of_block hS 1).trans rfl))
     go_ret
     exact ⟨rfl, hgr, by omega, by simpa using hat⟩
    | true =>
     rw [if_pos rfl] at h
     by_cases c3 : m.f0 = under
     ·by_cases c4 : under = 3
      ·rw [if_neg (fun q => q.2 c4)] at h
       have e1 : (m.f0 == under) = true := beq_iff_eq.2 c3
       have e2 : (under != 3) = false := by rw [c4]; rfl
       clear c3 c4
       go_enter Tryz.func28, Tryz.ntmps28
       go_wp2_with (go_at_call 29; go_must (refine (traits_formed.calls K m.f0 m.f1 m.f2 m.f3 m.f4.f0 m.f4.f1 _ _ hok (hG.at (below_sp hb ha _ _))).mono ?_; rintro e w' ⟨rfl, hb2⟩; obtain ⟨hgr, hat, hS⟩ := after_sa hT.at_ hb2; have hs0 : w'.cell? ⟨w.heap.size, 0, none⟩ = some (.int .i64 m.f0) := (Joins.cell_of_block hS 0).trans rfl; have hs1 : w'.cell? ⟨w.heap.size, 1, none⟩ = some (.int .i64 m.f1) := (Joins.cell_of_block hS 1).trans rfl))
       go_loopw [38] (fun v wr => ∃ q i' : Nat, v = .int .i64 q ∧ q ≤ m.f1.toNat ∧ q + i + 1 ≤ i' ∧ i' ≤ l.length ∧ kidsF (treeF K l d (deep + 1) m.f0) (m.f1.toNat - q) i' = some (r, j) ∧ w.grownBy wr (some a) ∧ wr.heap[a]? = some (.cells #[.int .i64 (i' : Int)] 3 (0, 0)) ∧ wr.heap[w.heap.size]? = some (.cells #[.int .i64 m.f0, .int .i64 m.f1, .string m.f2, .int .i64 m.f3, .int .i64 m.f4.f0, .int .i64 m.f4.f1] 45 (0, 0)))
        (fun v _ => m.f1.toNat - (intOf v).toNat)
       case atStart => exact ⟨0, i + 1, rfl, Nat.zero_le _, by omega, by omega, h, hgr, hat, hS⟩
       case round =>
        obtain ⟨q, i', rfl, hq, hqi, hi', hk, hg, hA', hS'⟩ := hrel
        clear hcA hfA hcN hcT hcA1 hfA1 hne1 hne2 x0 x1 x2 x3 x4 x5 hs0 hs1 hb2 hS hgr hat c1z c1y c1x
        have hcS0 : wr.cell? ⟨w.heap.size, 0, none⟩ = some (.int .i64 m.f0) := (Joins.cell_of_block hS' 0).trans rfl
        have hT' : TB wr a n t (some ad) l.length c0 i' := hT.on hg hA'
        have hcT' := cell_of_one hT'.tree
        have hbr : Below w0.heap.size w0 wr := hb.grown hg hb.size (fun k hk => by cases hk; exact ha)
        have hq64 : (q : Int) < 64 := by omega
        by_cases c5 : (q : Int) < m.f1
        ·rw [show m.f1.toNat - q = (m.f1.toNat - (q + 1)) + 1 from by omega, kidsF] at hk
         obtain ⟨⟨b, i2⟩, hk1, hk⟩ := Option.bind_eq_some_iff.mp hk
         have hlt2 := treeF_lt K l d _ _ _ _ _ hk1
         cases b with
         | false =>
          obtain ⟨rfl, rfl⟩ := Prod.mk.inj (Option.some.inj hk)
          go_wp2_with (go_at_call 28; go_must (refine (ih (deep + 1) m.f0 i' _ _ wr (by omega) hi' hk1 hbr hT').mono ?_; rintro e w2 ⟨rfl, hg2, hj2, hA2⟩))
          go_ret
          exact ⟨rfl, by first | exact ⟨hg.trans hg2, hj2, hA2⟩ | exact ⟨hg.trans hg2, hA2⟩⟩
         | true =>
          have hk : kidsF (treeF K l d (deep + 1) m.f0) (m.f1.toNat - (q + 1)) i2 = some (r, j) := hk
          have hlt3 : i' < i2 := hlt2.2 rfl
          go_wp2_with (go_at_call 28; go_must (refine (ih (deep + 1) m.f0 i' _ _ wr (by omega) hi' hk1 hbr hT').mono ?_; rintro e w2 ⟨rfl, hg2, hj2, hA2⟩))
          go_roundw
          case rel => exact ⟨q + 1, i2, by go_num, by omega, by omega, hj2, hk, hg.trans hg2, hA2, (hg2.block w.heap.size (lt_of_block hS') (by have := lt_of_block hT.at_; simp; omega)).trans hS'⟩
          case measure => simp [intOf]; omega
        ·rw [show m.f1.toNat - q = 0 from by omega, kidsF] at hk
         obtain ⟨rfl, rfl⟩ := Prod.mk.inj (Option.some.inj hk)
         go_wp2
         go_ret
         exact ⟨rfl, by first | exact ⟨hg, hi', hA'⟩ | exact ⟨hg, hA'⟩⟩
      ·rw [if_pos ⟨c3, c4⟩] at h
       obtain ⟨rfl, rfl⟩ := Prod.mk.inj (Option.some.inj h)
       have e1 : (m.f0 == under) = true := beq_iff_eq.2 c3
       have e2 : (under != 3) = true := bne_iff_ne.2 c4
       clear c3 c4
       go_enter Tryz.func28, Tryz.ntmps28
       go_wp2_with (go_at_call 29; go_must (refine (traits_formed.calls K m.f0 m.f1 m.f2 m.f3 m.f4.f0 m.f4.f1 _ _ hok (hG.at (below_sp hb ha _ _))).mono ?_; rintro e w' ⟨rfl, hb2⟩; obtain ⟨hgr, hat, hS⟩ := after_sa hT.at_ hb2; have hs0 : w'.cell? ⟨w.heap.size, 0, none⟩ = some (.int .i64 m.f0) := (Joins.cell_of_block hS 0).trans rfl; have hs1 : w'.cell? ⟨w.heap.size, 1, none⟩ = some (.int .i64 m.f1) := (Joins.cell_of_block hS 1).trans rfl))
       go_ret
       exact ⟨rfl, hgr, by omega, by simpa using hat⟩
     ·rw [if_neg (fun q => c3 q.1)] at h
      have e1 : (m.f0 == under) = false := beq_eq_false_iff_ne.2 c3
      clear c3
      go_enter Tryz.func28, Tryz.ntmps28
      go_wp2_with (go_at_call 29; go_must (refine (traits_formed.calls K m.f0 m.f1 m.f2 m.f3 m.f4.f0 m.f4.f1 _ _ hok (hG.at (below_sp hb ha _ _))).mono ?_; rintro e w' ⟨rfl, hb2⟩; obtain ⟨hgr, hat, hS⟩ := after_sa hT.at_ hb2; have hs0 : w'.cell? ⟨w.heap.size, 0, none⟩ = some (.int .i64 m.f0) := (Joins.cell_of_block hS 0).trans rfl; have hs1 : w'.cell? ⟨w.heap.size, 1, none⟩ = some (.int .i64 m.f1) := (Joins.cell_of_block hS 1).trans rfl))
      go_loopw [38] (fun v wr => ∃ q i' : Nat, v = .int .i64 q ∧ q ≤ m.f1.toNat ∧ q + i + 1 ≤ i' ∧ i' ≤ l.length ∧ kidsF (treeF K l d (deep + 1) m.f0) (m.f1.toNat - q) i' = some (r, j) ∧ w.grownBy wr (some a) ∧ wr.heap[a]? = some (.cells #[.int .i64 (i' : Int)] 3 (0, 0)) ∧ wr.heap[w.heap.size]? = some (.cells #[.int .i64 m.f0, .int .i64 m.f1, .string m.f2, .int .i64 m.f3, .int .i64 m.f4.f0, .int .i64 m.f4.f1] 45 (0, 0)))
       (fun v _ => m.f1.toNat - (intOf v).toNat)
      case atStart => exact ⟨0, i + 1, rfl, Nat.zero_le _, by omega, by omega, h, hgr, hat, hS⟩
      case round =>
       obtain ⟨q, i', rfl, hq, hqi, hi', hk, hg, hA', hS'⟩ := hrel
       clear hcA hfA hcN hcT hcA1 hfA1 hne1 hne2 x0 x1 x2 x3 x4 x5 hs0 hs1 hb2 hS hgr hat c1z c1y c1x
       have hcS0 : wr.cell? ⟨w.heap.size, 0, none⟩ = some (.int .i64 m.f0) := (Joins.cell_of_block hS' 0).trans rfl
       have hT' : TB wr a n t (some ad) l.length c0 i' := hT.on hg hA'
       have hcT' := cell_of_one hT'.tree
       have hbr : Below w0.heap.size w0 wr := hb.grown hg hb.size (fun k hk => by cases hk; exact ha)
       have hq64 : (q : Int) < 64 := by omega
       by_cases c5 : (q : Int) < m.f1
       ·rw [show m.f1.toNat - q = (m.f1.toNat - (q + 1)) + 1 from by omega, kidsF] at hk
        obtain ⟨⟨b, i2⟩, hk1, hk⟩ := Option.bind_eq_some_iff.mp hk
        have hlt2 := treeF_lt K l d _ _ _ _ _ hk1
        cases b with
        | false =>
         obtain ⟨rfl, rfl⟩ := Prod.mk.inj (Option.some.inj hk)
         go_wp2_with (go_at_call 28; go_must (refine (ih (deep + 1) m.f0 i' _ _ wr (by omega) hi' hk1 hbr hT').mono ?_; rintro e w2 ⟨rfl, hg2, hj2, hA2⟩))
         go_ret
         exact ⟨rfl, by first | exact ⟨hg.trans hg2, hj2, hA2⟩ | exact ⟨hg.trans hg2, hA2⟩⟩
        | true =>
         have hk : kidsF (treeF K l d (deep + 1) m.f0) (m.f1.toNat - (q + 1)) i2 = some (r, j) := hk
         have hlt3 : i' < i2 := hlt2.2 rfl
         go_wp2_with (go_at_call 28; go_must (refine (ih (deep + 1) m.f0 i' _ _ wr (by omega) hi' hk1 hbr hT').mono ?_; rintro e w2 ⟨rfl, hg2, hj2, hA2⟩))
         go_roundw
         case rel => exact ⟨q + 1, i2, by go_num, by omega, by omega, hj2, hk, hg.trans hg2, hA2, (hg2.block w.heap.size (lt_of_block hS') (by have := lt_of_block hT.at_; simp; omega)).trans hS'⟩
         case measure => simp [intOf]; omega
       ·rw [show m.f1.toNat - q = 0 from by omega, kidsF] at hk
        obtain ⟨rfl, rfl⟩ := Prod.mk.inj (Option.some.inj hk)
        go_wp2
        go_ret
        exact ⟨rfl, by first | exact ⟨hg, hi', hA'⟩ | exact ⟨hg, hA'⟩⟩
theorem three_allocs (w : World) (o1 o2 o3 : Obj) : (((w.alloc o1).alloc o2).alloc o3).heap[w.heap.size]? = some o1 ∧ (((w.alloc o1).alloc o2).alloc o3).heap[w.heap.size + 1]? = some o2 ∧ (((w.alloc o1).alloc o2).alloc o3).heap[w.heap.size + 2]? = some o3 := by
 have h1 := (MapKept.heap_alloc w o1).1
 have h2 := (MapKept.heap_alloc (w.alloc o1) o2).1
 have h3 := (MapKept.heap_alloc ((w.alloc o1).alloc o2) o3).1
 have s1 : (w.alloc o1).heap.size = w.heap.size + 1 := by simp
 have s2 : ((w.alloc o1).alloc o2).heap.size = w.heap.size + 2 := by simp
 rw [s1] at h2
 rw [s2] at h3
 exact ⟨(Below.heap_alloc _ _ _ (by rw [s2]; omega)).trans ((Below.heap_alloc _ _ _ (by rw [s1]; omega)).trans h1), (Below.heap_alloc _ _ _ (by rw [s2]; omega)).trans h2, h3⟩
theorem below3 (w : World) (o1 o2 o3 : Obj) : Below w.heap.size w (((w.alloc o1).alloc o2).alloc o3) :=
 (((Below.refl _ _).alloc (Nat.le_refl _) _).alloc (by simp) _).alloc (by simp; omega) _
theorem traits_Check.calls (k : Nat) (A0 : Option Addr) (c0 : Nat) (l0 : List S45) (r : Int) (w : World) (hr0 : Kd.C k45 w A0 l0.length l0) (hc0 : l0.length ≤ c0) (h : traits_Check.f k l0 = some r) (hG : GT w) :
  Calls Tryz.prog 14 #[.slice A0 l0.length c0] w fun e w' => e = .returned (.int .i64 r) ∧ Below w.heap.size w w' := by
 rw [traits_Check.f] at h
 by_cases c1 : l0.length = 0
 ·rw [if_pos c1] at h
  obtain rfl := Option.some.inj h
  have c1z : (l0.length : Int) = 0 := by omega
  go_enter Tryz.func14, Tryz.ntmps14
  go_wp2
  go_ret
  exact ⟨rfl, (Below.refl _ _).alloc (Nat.le_refl _) _⟩
 ·rw [if_neg c1] at h
  have c1z : ¬ (l0.length : Int) = 0 := by omega
  by_cases c2 : 64 < l0.length
  ·rw [if_pos c2] at h
   obtain rfl := Option.some.inj h
   have c2z : 64 < (l0.length : Int) := by omega
   go_enter Tryz.func14, Tryz.ntmps14
   go_wp2
   go_ret
   exact ⟨rfl, (Below.refl _ _).alloc (Nat.le_refl _) _⟩
  ·rw [if_neg c2] at h
   have c2z : ¬ 64 < (l0.length : Int) := by omega
   obtain ⟨⟨b, j⟩, ht, h⟩ := Option.map_eq_some_iff.mp h
   have hmf : ∀ (fn : Fn) (first cap : Array Value) (w : World), (Instr.makeFunc fn first cap).run Tryz.prog w = .ok (.func fn first cap) w := fun _ _ _ _ => rfl
   have hsf := fun (a : Addr) (c : Array Value) (w : World) => run_store Tryz.prog w a (.func (.func 28) #[] c) .plain rfl
   obtain ⟨W3, hW3⟩ : ∃ W3, ((w.alloc (.cells #[.slice A0 l0.length c0] 22)).alloc (.cells #[.int .i64 0] 3)).alloc (.cells #[.func (.func 28) #[] #[.pointer (some ⟨w.heap.size + 1, 0, none⟩), .pointer (some ⟨w.heap.size, 0, none⟩), .pointer (some ⟨w.heap.size + 1 + 1, 0, none⟩)]] 60) = W3 := ⟨_, rfl⟩
   have hB3 : Below w.heap.size w W3 := by rw [← hW3]; exact below3 w _ _ _
   have hT3 : TB W3 (w.heap.size + 1) w.heap.size (w.heap.size + 1 + 1) A0 l0.length c0 0 := by
    rw [← hW3]
    exact ⟨(three_allocs w _ _ _).2.1, (three_allocs w _ _ _).1, (three_allocs w _ _ _).2.2⟩
   have hcall := tree_calls k w l0 A0 c0 hr0 (by omega) hG (w.heap.size + 1) w.heap.size (w.heap.size + 1 + 1) (by omega) 20 1 0 0 b j W3 (by omega) (by omega) ht hB3 hT3
   have hfin : ∀ w', W3.grownBy w' (some (w.heap.size + 1)) → Below w.heap.size w w' := fun w' hg => hB3.grown hg hB3.size (fun k hk => by cases hk; exact Nat.le_succ _)
   have hnod : ∀ w', W3.grownBy w' (some (w.heap.size + 1)) → w'.heap[w.heap.size + 1]? = some (.cells #[.int .i64 (j : Int)] 3 (0, 0)) → w'.cell? ⟨w.heap.size, 0, none⟩ = some (.slice A0 l0.length c0) := fun w' hg hA => cell_of_one (hT3.on hg hA).nodes
   rw [← hW3] at hcall hfin hnod
   clear hT3 hB3 hW3 W3 ht hr0
   cases b with
   | false =>
    obtain rfl : (131 : Int) = r := h
    go_enter Tryz.func14, Tryz.ntmps14
    go_wp2_with (go_at_call 28; go_must (refine hcall.mono ?_; rintro e w' ⟨rfl, hg, hj, hA⟩; have hcA := cell_of_one hA; have hcN := hnod w' hg hA; have hbf := hfin w' hg))
    go_ret
    exact ⟨rfl, hbf⟩
   | true =>
    by_cases c3 : j = l0.length
    ·obtain rfl : (0 : Int) = r := by rw [← h]; exact (if_pos ⟨rfl, c3⟩).symm
     have c3z : ((j : Int) != (l0.length : Int)) = false := by rw [c3]; simp
     go_enter Tryz.func14, Tryz.ntmps14
     go_wp2_with (go_at_call 28; go_must (refine hcall.mono ?_; rintro e w' ⟨rfl, hg, hj, hA⟩; have hcA := cell_of_one hA; have hcN := hnod w' hg hA; have hbf := hfin w' hg))
     go_ret
     exact ⟨rfl, hbf⟩
    ·obtain rfl : (131 : Int) = r := by rw [← h]; exact (if_neg (fun q => c3 q.2)).symm
     have c3z : ((j : Int) != (l0.length : Int)) = true := bne_iff_ne.2 (by omega)
     go_enter Tryz.func14, Tryz.ntmps14
     go_wp2_with (go_at_call 28; go_must (refine hcall.mono ?_; rintro e w' ⟨rfl, hg, hj, hA⟩; have hcA := cell_of_one hA; have hcN := hnod w' hg hA; have hbf := hfin w' hg))
     go_ret
     exact ⟨rfl, hbf⟩
theorem kidsF_mono {T T' : Nat → Option (Bool × Nat)} (h : ∀ i, LeO (T i) (T' i)) : ∀ m i, LeO (kidsF T m i) (kidsF T' m i)
 | 0, i => LeO.refl _
 | m + 1, i => fun r hr => by
  rw [kidsF] at hr ⊢
  obtain ⟨⟨b, i2⟩, h1, h2⟩ := Option.bind_eq_some_iff.mp hr
  rw [h i _ h1, Option.bind_some]
  cases b with
  | false => exact h2
  | true => exact kidsF_mono h m i2 r h2
theorem treeF_mono (K : Nat) (l : List S45) : ∀ (d : Nat) (deep under : Int) (i : Nat), LeO (treeF K l d deep under i) (treeF (K + 1) l d deep under i)
 | 0, _, _, _ => fun r hr => by simp [treeF] at hr
 | d + 1, deep, under, i => fun r hr => by
  rw [treeF] at hr ⊢
  by_cases c1 : i = l.length
  ·rw [if_pos c1] at hr ⊢; exact hr
  ·rw [if_neg c1] at hr ⊢
   by_cases c2 : 16 < deep
   ·rw [if_pos c2] at hr ⊢; exact hr
   ·rw [if_neg c2] at hr ⊢
    obtain ⟨ok, h1, h2⟩ := Option.bind_eq_some_iff.mp hr
    rw [traits_formed.mono _ _ _ _ _ _ _ _ h1, Option.bind_some]
    by_cases c3 : ok = true
    ·rw [if_pos c3] at h2 ⊢
     split at h2
     ·rename_i c4; rw [if_pos c4]; exact h2
     ·rename_i c4; rw [if_neg c4]; exact kidsF_mono (fun i => treeF_mono K l d _ _ i) _ _ r h2
    ·rw [if_neg c3] at h2 ⊢; exact h2
theorem traits_Check.mono : ∀ l0 k, LeO (traits_Check.f k l0) (traits_Check.f (k + 1) l0) := fun l0 k r hr => by
 rw [traits_Check.f] at hr ⊢
 by_cases c1 : l0.length = 0
 ·rw [if_pos c1] at hr ⊢; exact hr
 ·rw [if_neg c1] at hr ⊢
  by_cases c2 : 64 < l0.length
  ·rw [if_pos c2] at hr ⊢; exact hr
  ·rw [if_neg c2] at hr ⊢
   obtain ⟨x, h1, h2⟩ := Option.map_eq_some_iff.mp hr
   exact Option.map_eq_some_iff.mpr ⟨x, treeF_mono k l0 20 1 0 0 x h1, h2⟩
def traits_opposite.f (a0 : Int) : Option (Int) := if a0 = 1 then (some 4) else (if a0 = 2 then (some 3) else (if a0 = 3 then (some 2) else (some 1)))
def flat32 (x : S45) : List Value := [.int .i64 x.f0, .int .i64 x.f1, .string x.f2, .int .i64 x.f3, .int .i64 x.f4.f0, .int .i64 x.f4.f1]
theorem k32_M (x : S45) (w : World) (base : Nat) (ok : Nat → Prop) : k45.M w base ok x (flat32 x) := by
 refine ⟨[.int .i64 x.f0], _, rfl, rfl, ?_⟩
 refine ⟨[.int .i64 x.f1], _, rfl, rfl, ?_⟩
 refine ⟨[.string x.f2], _, rfl, rfl, ?_⟩
 refine ⟨[.int .i64 x.f3], _, rfl, rfl, ?_⟩
 refine ⟨[.int .i64 x.f4.f0], _, rfl, rfl, ?_⟩
 rfl
theorem flat_len (xs : List S45) : (xs.flatMap flat32).length = xs.length * 6 := by
 induction xs with
 | nil => rfl
 | cons x xs ih => rw [List.flatMap_cons, List.length_append, ih]; simp [flat32]; omega
theorem flat_at (w : World) (base : Nat) (ok : Nat → Prop) (xs : List S45) : ∀ (j : Nat) (p : S45), xs[j]? = some p → k45.M w base ok p (((xs.flatMap flat32).drop (j * 6)).take 6) := by
 induction xs with
 | nil => intro j p hj; simp at hj
 | cons x xs ih =>
  intro j p hj
  cases j with
  | zero =>
   obtain rfl : x = p := by simpa using hj
   have e : ((List.flatMap flat32 (x :: xs)).drop (0 * 6)).take 6 = flat32 x := by simp [flat32]
   rw [e]; exact k32_M x w base ok
  | succ j =>
   have e : ((List.flatMap flat32 (x :: xs)).drop ((j + 1) * 6)) = (List.flatMap flat32 xs).drop (j * 6) := by
    rw [List.flatMap_cons, show (j + 1) * 6 = (flat32 x).length + j * 6 from by simp [flat32]; omega, ← List.drop_drop]
    simp
   rw [e]; exact ih j p (by simpa using hj)
theorem reps32 (w : World) (base : Nat) (ok : Nat → Prop) (xs : List S45) : Reps (k45.M w base ok) 6 xs (xs.flatMap flat32) := ⟨flat_len xs, flat_at w base ok xs⟩
theorem R_nodes (w : World) (base g : Nat) (xs : List S45) (hx : 0 < xs.length) (hl : xs.length ≤ 1000000) (hg : base ≤ g) (hb : w.heap[g]? = some (.cells (xs.flatMap flat32).toArray 45 (0, 0))) : Kd.R k45 45 w base (fun _ => True) (.slice (some ⟨g, 0, none⟩) xs.length xs.length) xs := by
 have hlen := flat_len xs
 have h6 : k45.sz = 6 := rfl
 refine ⟨fun _ _ => trivial, xs.flatMap flat32, ⟨by rw [h6]; exact hlen, Or.inr ⟨g, xs.length, _, rfl, hg, hb, Nat.le_refl _, by unfold maxLen; omega, by rw [h6, List.size_toArray]; exact hlen, by rw [h6, ← hlen]; simp [-List.length_flatMap]⟩⟩, ?_⟩
 rw [h6]; exact (reps32 w base _ xs)
theorem new2 (w : World) (o1 o2 : Obj) : ((w.alloc o1).alloc o2).heap[w.heap.size + 1]? = some o2 := by
 have h2 := (MapKept.heap_alloc (w.alloc o1) o2).1
 rwa [show (w.alloc o1).heap.size = w.heap.size + 1 from by simp] at h2
theorem belowN (w : World) (o1 o2 : Obj) : Below w.heap.size w ((w.alloc o1).alloc o2) := ((Below.refl _ _).alloc (Nat.le_refl _) _).alloc (by simp) _
def traits_bare.f (a0_0 a0_1 : Int) (a0_2 : ByteArray) (a0_3 a0_4 a0_5 : Int) (a1 : Bool) : Option (List S45) :=
 if a1 = true then
  if a0_0 = 6 ∨ a0_0 = 7 then (traits_opposite.f a0_3).map fun o => [⟨a0_0, a0_1, a0_2, o, ⟨a0_4, a0_5⟩⟩]
  else some [⟨3, 1, ⟨#[]⟩, 0, ⟨0, 0⟩⟩, ⟨a0_0, a0_1, a0_2, a0_3, ⟨a0_4, a0_5⟩⟩]
 else some [⟨a0_0, a0_1, a0_2, a0_3, ⟨a0_4, a0_5⟩⟩]
set_option maxRecDepth 100000 in
theorem traits_bare.calls (a0_0 a0_1 : Int) (a0_2 : ByteArray) (a0_3 a0_4 a0_5 : Int) (a1 : Bool) (r : List S45) (w : World) (h : traits_bare.f a0_0 a0_1 a0_2 a0_3 a0_4 a0_5 a1 = some r) :
  Calls Tryz.prog 19 #[.agg #[.int .i64 a0_0, .int .i64 a0_1, .string a0_2, .int .i64 a0_3, .int .i64 a0_4, .int .i64 a0_5], .bool a1] w fun e w' => ∃ v0_ : Value, e = .returned v0_ ∧ Kd.R k45 45 w' w.heap.size (fun _ => True) v0_ r ∧ Below w.heap.size w w' := by
 unfold traits_bare.f at h
 cases a1 with
 | false =>
  obtain rfl := Option.some.inj h
  go_enter Tryz.func19, Tryz.ntmps19
  go_wp2
  go_ret
  exact ⟨_, rfl, R_nodes _ _ (w.heap.size + 1) [⟨a0_0, a0_1, a0_2, a0_3, ⟨a0_4, a0_5⟩⟩] (by simp) (by simp) (Nat.le_succ _) (new2 w _ _), belowN _ _ _⟩
 | true =>
  rw [if_pos rfl] at h
  by_cases c1 : a0_0 = 6 ∨ a0_0 = 7
  ·rw [if_pos c1] at h
   obtain ⟨o, ho, rfl⟩ := Option.map_eq_some_iff.mp h
   have fin : ∀ (A : Array Value), Kd.R k45 45 ((w.alloc (.cells A 45)).alloc (.cells #[.int .i64 a0_0, .int .i64 a0_1, .string a0_2, .int .i64 o, .int .i64 a0_4, .int .i64 a0_5] 45)) w.heap.size (fun _ => True) (.slice (some ⟨w.heap.size + 1, 0, none⟩) 1 1) [⟨a0_0, a0_1, a0_2, o, ⟨a0_4, a0_5⟩⟩] := fun A =>
    R_nodes _ _ (w.heap.size + 1) [⟨a0_0, a0_1, a0_2, o, ⟨a0_4, a0_5⟩⟩] (by simp) (by simp) (Nat.le_succ _) (new2 w _ _)
   rcases c1 with c1 | c1
   ·have k6 : (a0_0 == 6) = true := by rw [c1]; rfl
    have k7 : (a0_0 == 7) = false := by rw [c1]; rfl
    clear c1
    unfold traits_opposite.f at ho
    by_cases o1 : a0_3 = 1
    ·rw [if_pos o1] at ho
     obtain rfl := Option.some.inj ho
     have p1 : (a0_3 == 1) = true := beq_iff_eq.2 o1
     clear o1 ho
     go_enter Tryz.func19, Tryz.ntmps19
     go_wp2
     go_ret
     exact ⟨_, rfl, fin _, belowN _ _ _⟩
    ·rw [if_neg o1] at ho
     have p1 : (a0_3 == 1) = false := beq_eq_false_iff_ne.2 o1
     by_cases o2 : a0_3 = 2
     ·rw [if_pos o2] at ho
      obtain rfl := Option.some.inj ho
      have p2 : (a0_3 == 2) = true := beq_iff_eq.2 o2
      clear o1 o2 ho
      go_enter Tryz.func19, Tryz.ntmps19
      go_wp2
      go_ret
      exact ⟨_, rfl, fin _, belowN _ _ _⟩
     ·rw [if_neg o2] at ho
      have p2 : (a0_3 == 2) = false := beq_eq_false_iff_ne.2 o2
      by_cases o3 : a0_3 = 3
      ·rw [if_pos o3] at ho
       obtain rfl := Option.some.inj ho
       have p3 : (a0_3 == 3) = true := beq_iff_eq.2 o3
       clear o1 o2 o3 ho
       go_enter Tryz.func19, Tryz.ntmps19
       go_wp2
       go_ret
       exact ⟨_, rfl, fin _, belowN _ _ _⟩
      ·rw [if_neg o3] at ho
       obtain rfl := Option.some.inj ho
       have p3 : (a0_3 == 3) = false := beq_eq_false_iff_ne.2 o3
       clear o1 o2 o3 ho
       go_enter Tryz.func19, Tryz.ntmps19
       go_wp2
       go_ret
       exact ⟨_, rfl, fin _, belowN _ _ _⟩
   ·have k6 : (a0_0 == 6) = false := by rw [c1]; rfl
    have k7 : (a0_0 == 7) = true := by rw [c1]; rfl
    clear c1
    unfold traits_opposite.f at ho
    by_cases o1 : a0_3 = 1
    ·rw [if_pos o1] at ho
     obtain rfl := Option.some.inj ho
     have p1 : (a0_3 == 1) = true := beq_iff_eq.2 o1
     clear o1 ho
     go_enter Tryz.func19, Tryz.ntmps19
     go_wp2
     go_ret
     exact ⟨_, rfl, fin _, belowN _ _ _⟩
    ·rw [if_neg o1] at ho
     have p1 : (a0_3 == 1) = false := beq_eq_false_iff_ne.2 o1
     by_cases o2 : a0_3 = 2
     ·rw [if_pos o2] at ho
      obtain rfl := Option.some.inj ho
      have p2 : (a0_3 == 2) = true := beq_iff_eq.2 o2
      clear o1 o2 ho
      go_enter Tryz.func19, Tryz.ntmps19
      go_wp2
      go_ret
      exact ⟨_, rfl, fin _, belowN _ _ _⟩
     ·rw [if_neg o2] at ho
      have p2 : (a0_3 == 2) = false := beq_eq_false_iff_ne.2 o2
      by_cases o3 : a0_3 = 3
      ·rw [if_pos o3] at ho
       obtain rfl := Option.some.inj ho
       have p3 : (a0_3 == 3) = true := beq_iff_eq.2 o3
       clear o1 o2 o3 ho
       go_enter Tryz.func19, Tryz.ntmps19
       go_wp2
       go_ret
       exact ⟨_, rfl, fin _, belowN _ _ _⟩
      ·rw [if_neg o3] at ho
       obtain rfl := Option.some.inj ho
       have p3 : (a0_3 == 3) = false := beq_eq_false_iff_ne.2 o3
       clear o1 o2 o3 ho
       go_enter Tryz.func19, Tryz.ntmps19
       go_wp2
       go_ret
       exact ⟨_, rfl, fin _, belowN _ _ _⟩
  ·rw [if_neg c1] at h
   obtain rfl := Option.some.inj h
   have k6 : (a0_0 == 6) = false := beq_eq_false_iff_ne.2 (fun e => c1 (Or.inl e))
   have k7 : (a0_0 == 7) = false := beq_eq_false_iff_ne.2 (fun e => c1 (Or.inr e))
   clear c1
   go_enter Tryz.func19, Tryz.ntmps19
   go_wp2
   go_ret
   exact ⟨_, rfl, R_nodes _ _ (w.heap.size + 1) [⟨3, 1, ⟨#[]⟩, 0, ⟨0, 0⟩⟩, ⟨a0_0, a0_1, a0_2, a0_3, ⟨a0_4, a0_5⟩⟩] (by simp) (by simp) (Nat.le_succ _) (new2 w _ _), belowN _ _ _⟩
end Go.Proofs.YtcljnjnlafkieaaGreatDoorR.PPLA
