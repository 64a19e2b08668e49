-- Written by this session's program (wip/tools/pr.py over the kit's print).
import Derived.Test.YtlboolhjfffppaaDoorPh
import Derived.Test.YtlboolhjfffppaaDoorPTBLx0
import Derived.Test.YtlboolhjfffppaaDoorPTBLx2
import Derived.Test.YtlboolhjfffppaaDoorPTBLx3
namespace Go.Proofs.YtlboolhjfffppaaDoor.PTBL
open Go.RowKit Go.Proofs.YtlboolhjfffppaaDoorW.PrintWords Go.Proofs.YtlboolhjfffppaaDoorW.PrintLast Go.Proofs.YtlboolhjfffppaaDoorW.PrintMore
attribute [local go_sem] max2_int min2_int max_two min_two max_three min_three max_four min_four
set_option linter.unusedVariables false
set_option linter.unusedSimpArgs false
def kidsF (T : Nat → Option (Bool × Nat)) : Nat → Nat → Option (Bool × Nat)
 | 0, i => some (true, i)
 | m + 1, i => (T i).bind fun x => if x.1 = true then kidsF T m x.2 else some (false, x.2)
def treeF (K : Nat) (l : List S35) : Nat → Int → Int → Nat → Option (Bool × Nat)
 | 0, _, _, _ => none
 | d + 1, deep, under, i =>
  if i = l.length then some (false, i) else if 16 < deep then some (false, i) else
  (traits_formed.f K (rd_T35 l (i : Int)).f0 (rd_T35 l (i : Int)).f1 (rd_T35 l (i : Int)).f2 (rd_T35 l (i : Int)).f3 (rd_T35 l (i : Int)).f4.f0 (rd_T35 l (i : Int)).f4.f1).bind fun ok =>
   if ok = true then
    if (rd_T35 l (i : Int)).f0 = under ∧ under ≠ 3 then some (false, i + 1)
    else kidsF (treeF K l d (deep + 1) (rd_T35 l (i : Int)).f0) (rd_T35 l (i : Int)).f1.toNat (i + 1)
   else some (false, i + 1)
theorem kidsF_lt (T : Nat → Option (Bool × Nat)) (hT : ∀ i r j, T i = some (r, j) → i ≤ j) : ∀ m i r j, kidsF T m i = some (r, j) → i ≤ j
 | 0, i, r, j, h => by
  obtain ⟨_, rfl⟩ := Prod.mk.inj (Option.some.inj h); exact Nat.le_refl _
 | m + 1, i, r, j, h => by
  rw [kidsF] at h
  obtain ⟨⟨b, i2⟩, h1, h⟩ := Option.bind_eq_some_iff.mp h
  have := hT _ _ _ h1
  cases b with
  | false => obtain ⟨_, rfl⟩ := Prod.mk.inj (Option.some.inj h); exact this
  | true => exact Nat.le_trans this (kidsF_lt T hT m i2 r j h)
theorem treeF_lt (K : Nat) (l : List S35) : ∀ (d : Nat) (deep under : Int) (i : Nat) (r : Bool) (j : Nat), treeF K l d deep under i = some (r, j) → i ≤ j ∧ (r = true → i < j)
 | 0, _, _, _, _, _, h => by simp [treeF] at h
 | d + 1, deep, under, i, r, j, h => by
  rw [treeF] at h
  split at h
  ·obtain ⟨rfl, rfl⟩ := Prod.mk.inj (Option.some.inj h); exact ⟨Nat.le_refl _, fun q => by cases q⟩
  ·split at h
   ·obtain ⟨rfl, rfl⟩ := Prod.mk.inj (Option.some.inj h); exact ⟨Nat.le_refl _, fun q => by cases q⟩
   ·obtain ⟨ok, _, h⟩ := Option.bind_eq_some_iff.mp h
    split at h
    ·split at h
     ·obtain ⟨rfl, rfl⟩ := Prod.mk.inj (Option.some.inj h); exact ⟨Nat.le_succ _, fun q => by cases q⟩
     ·have := kidsF_lt _ (fun i r j h => (treeF_lt K l d _ _ i r j h).1) _ _ _ _ h
      exact ⟨by omega, fun _ => by omega⟩
    ·obtain ⟨rfl, rfl⟩ := Prod.mk.inj (Option.some.inj h); exact ⟨Nat.le_succ _, fun q => by cases q⟩
def traits_Check.f (k : Nat) (l0 : List S35) : Option Int :=
 if l0.length = 0 then some 0 else if 64 < l0.length then some 131 else (treeF k l0 20 1 0 0).map fun x => if x.1 = true ∧ x.2 = l0.length then 0 else 131
structure TB (w : World) (a n t : Nat) (A0 : Option Addr) (len c0 : Nat) (i : Nat) : Prop where
 at_ : w.heap[a]? = some (.cells #[.int .i64 (i : Int)] 3 (0, 0))
 nodes : w.heap[n]? = some (.cells #[.slice A0 len c0] 22 (0, 0))
 tree : w.heap[t]? = some (.cells #[.func (.func 12) #[] #[.pointer (some ⟨a, 0, none⟩), .pointer (some ⟨n, 0, none⟩), .pointer (some ⟨t, 0, none⟩)]] 43 (0, 0))
theorem TB.na {w : World} {a n t : Nat} {A0 : Option Addr} {len c0 i : Nat} (h : TB w a n t A0 len c0 i) : n ≠ a := fun e => by
 have h1 := h.nodes; rw [e, h.at_] at h1; simp at h1
theorem TB.ta {w : World} {a n t : Nat} {A0 : Option Addr} {len c0 i : Nat} (h : TB w a n t A0 len c0 i) : t ≠ a := fun e => by
 have h1 := h.tree; rw [e, h.at_] at h1; simp at h1
theorem TB.on {w w' : World} {a n t : Nat} {A0 : Option Addr} {len c0 i i' : Nat} (h : TB w a n t A0 len c0 i) (hg : w.grownBy w' (some a)) (ha : w'.heap[a]? = some (.cells #[.int .i64 (i' : Int)] 3 (0, 0))) : TB w' a n t A0 len c0 i' :=
 ⟨ha, (hg.block n (lt_of_block h.nodes) (by have := h.na; simpa using this)).trans h.nodes, (hg.block t (lt_of_block h.tree) (by have := h.ta; simpa using this)).trans h.tree⟩
theorem grown_refl (w : World) (row : Option Nat) : w.grownBy w row := ⟨rfl, rfl, rfl, Nat.le_refl _, fun _ _ _ => rfl⟩
theorem below_sp {a : Nat} {w0 w : World} (hb : Below w0.heap.size w0 w) (ha : w0.heap.size ≤ a) (v : Value) (o : Obj) : Below w0.heap.size w0 ((w.setCell ⟨a, 0, none⟩ v).alloc o) :=
 (hb.setCell (by show w0.heap.size ≤ a; exact ha) v).alloc (by have := hb.size; simpa using this) o
theorem after_sa {w w' : World} {a : Nat} {u v : Value} {o : Obj} (hA : w.heap[a]? = some (.cells #[u] 3 (0, 0))) (hb2 : Below ((w.setCell ⟨a, 0, none⟩ v).alloc o).heap.size ((w.setCell ⟨a, 0, none⟩ v).alloc o) w') :
  w.grownBy w' (some a) ∧ w'.heap[a]? = some (.cells #[v] 3 (0, 0)) ∧ w'.heap[w.heap.size]? = some o := by
 have hlt := lt_of_block hA
 have hs : (w.setCell ⟨a, 0, none⟩ v).heap.size = w.heap.size := by simp
 have hsz : ((w.setCell ⟨a, 0, none⟩ v).alloc o).heap.size = w.heap.size + 1 := by simp
 have h1 : ∀ k, k < w.heap.size → ((w.setCell ⟨a, 0, none⟩ v).alloc o).heap[k]? = (w.setCell ⟨a, 0, none⟩ v).heap[k]? := fun k hk => Below.heap_alloc _ _ _ (by rw [hs]; exact hk)
 refine ⟨⟨?_, ?_, ?_, ?_, fun k hk hne => ?_⟩, ?_, ?_⟩
 ·exact hb2.os.trans ((Below.refl 0 w).setCell (Nat.zero_le _) v |>.alloc (Nat.zero_le _) o).os
 ·exact hb2.tape.trans ((Below.refl 0 w).setCell (Nat.zero_le _) v |>.alloc (Nat.zero_le _) o).tape
 ·exact hb2.output.trans ((Below.refl 0 w).setCell (Nat.zero_le _) v |>.alloc (Nat.zero_le _) o).output
 ·have := hb2.size; rw [hsz] at this; omega
 ·exact (hb2.block k (by rw [hsz]; omega)).trans ((h1 k hk).trans (Below.heap_setCell _ _ _ _ (by show k ≠ a; intro e; exact hne (by rw [e]))))
 ·exact (hb2.block a (by rw [hsz]; omega)).trans ((h1 a hlt).trans (one_setCell hA))
 ·have h2 := (MapKept.heap_alloc (w.setCell ⟨a, 0, none⟩ v) o).1
  rw [hs] at h2
  exact (hb2.block w.heap.size (by rw [hsz]; omega)).trans h2
set_option maxRecDepth 100000 in
set_option maxHeartbeats 4000000 in
theorem tree_calls (K : Nat) (w0 : World) (l : List S35) (A0 : Option Addr) (c0 : Nat) (hC : Kd.C k35 w0 A0 l.length l) (hl : l.length ≤ 64) (hG : GT w0) (a n t : Nat) (ha : w0.heap.size ≤ a) :
  ∀ (d : Nat) (deep under : Int) (i : Nat) (r : Bool) (j : Nat) (w : World), 0 ≤ deep → i ≤ l.length → treeF K l d deep under i = some (r, j) → Below w0.heap.size w0 w → TB w a n t A0 l.length c0 i →
   Calls Tryd.prog 12 #[.int .i64 deep, .int .i64 under, .pointer (some ⟨a, 0, none⟩), .pointer (some ⟨n, 0, none⟩), .pointer (some ⟨t, 0, none⟩)] w fun e w' =>
    e = .returned (.bool r) ∧ w.grownBy w' (some a) ∧ j ≤ l.length ∧ w'.heap[a]? = some (.cells #[.int .i64 (j : Int)] 3 (0, 0))
 | 0, _, _, _, _, _, _, _, _, h, _, _ => by simp [treeF] at h
 | d + 1, deep, under, i, r, j, w, hd, hi, h, hb, hT => by
  have ih := tree_calls K w0 l A0 c0 hC hl hG a n t ha d
  have hcA := cell_of_one hT.at_
  have hfA := free_of_one hT.at_
  have hcN := cell_of_one hT.nodes
  have hcT := cell_of_one hT.tree
  have hltA := lt_of_block hT.at_
  have hcA1 : ∀ o, (w.alloc o).cell? ⟨a, 0, none⟩ = some (.int .i64 (i : Int)) := fun o => (((Below.refl w.heap.size w).alloc (Nat.le_refl _) o).cell hltA).trans hcA
  have hfA1 : ∀ o, (w.alloc o).frozen? ⟨a, 0, none⟩ = false := fun o => (((Below.refl w.heap.size w).alloc (Nat.le_refl _) o).frozen hltA).trans hfA
  have hne1 : ¬ a = w.heap.size := by omega
  have hne2 : ¬ w.heap.size = a := by omega
  rw [treeF] at h
  by_cases c1 : i = l.length
  ·rw [if_pos c1] at h
   obtain ⟨rfl, rfl⟩ := Prod.mk.inj (Option.some.inj h)
   subst c1
   go_enter Tryd.func12, Tryd.ntmps12
   go_wp2
   go_ret
   exact ⟨rfl, by first | exact ⟨grown_refl _ _, hi, hT.at_⟩ | exact ⟨grown_refl _ _, hT.at_⟩⟩
  ·rw [if_neg c1] at h
   have c1z : ¬ (i : Int) = (l.length : Int) := by omega
   have c1y : ¬ (l.length : Int) = (i : Int) := by omega
   have c1x : ((i : Int) == (l.length : Int)) = false := beq_eq_false_iff_ne.2 c1z
   have hi64 : (i : Int) < 64 := by omega
   by_cases c2 : 16 < deep
   ·rw [if_pos c2] at h
    obtain ⟨rfl, rfl⟩ := Prod.mk.inj (Option.some.inj h)
    go_enter Tryd.func12, Tryd.ntmps12
    go_wp2
    go_ret
    exact ⟨rfl, by first | exact ⟨grown_refl _ _, hi, hT.at_⟩ | exact ⟨grown_refl _ _, hT.at_⟩⟩
   ·rw [if_neg c2] at h
    have c2z : deep ≤ 16 := by omega
    have hi0 : 0 ≤ (i : Int) := by omega
    have hiz : (i : Int) < (l.length : Int) := by omega
    obtain ⟨ad, rfl, x0, x1, x2, x3, x4, x5⟩ := at_T35 (Kd.C_below hC hb) (i : Int) hi0 hiz
    obtain ⟨m, hm⟩ : ∃ m, rd_T35 l (i : Int) = m := ⟨_, rfl⟩
    rw [hm] at x0 x1 x2 x3 x4 x5 h
    simp only [Int.toNat_natCast] at x0 x1 x2 x3 x4 x5
    obtain ⟨ok, hok, h⟩ := Option.bind_eq_some_iff.mp h
    cases ok with
    | false =>
     obtain ⟨rfl, rfl⟩ := Prod.mk.inj (Option.some.inj h)
     go_enter Tryd.func12, Tryd.ntmps12
     go_wp2_with (go_at_call 13; go_must (refine (traits_formed.calls K m.f0 m.f1 m.f2 m.f3 m.f4.f0 m.f4.f1 _ _ hok (hG.at (below_sp hb ha _ _))).mono ?_; rintro e w' ⟨rfl, hb2⟩; obtain ⟨hgr, hat, hS⟩ := after_sa hT.at_ hb2; have hs0 : w'.cell? ⟨w.heap.size, 0, none⟩ = some (.int .i64 m.f0) := (Joins.cell_of_block hS 0).trans rfl; have hs1 : w'.cell? ⟨w.heap.size, 1, none⟩ = some (.int .i64 m.f1) := (Joins.cell_of_block hS 1).trans rfl))
     go_ret
     exact ⟨rfl, hgr, by omega, by simpa using hat⟩
    | true =>
     rw [if_pos rfl] at h
     by_cases c3 : m.f0 = under
     ·by_cases c4 : under = 3
      ·rw [if_neg (fun q => q.2 c4)] at h
       have e1 : (m.f0 == under) = true := beq_iff_eq.2 c3
       have e2 : (under != 3) = false := by rw [c4]; rfl
       clear c3 c4
       go_enter Tryd.func12, Tryd.ntmps12
       go_wp2_with (go_at_call 13; go_must (refine (traits_formed.calls K m.f0 m.f1 m.f2 m.f3 m.f4.f0 m.f4.f1 _ _ hok (hG.at (below_sp hb ha _ _))).mono ?_; rintro e w' ⟨rfl, hb2⟩; obtain ⟨hgr, hat, hS⟩ := after_sa hT.at_ hb2; have hs0 : w'.cell? ⟨w.heap.size, 0, none⟩ = some (.int .i64 m.f0) := (Joins.cell_of_block hS 0).trans rfl; have hs1 : w'.cell? ⟨w.heap.size, 1, none⟩ = some (.int .i64 m.f1) := (Joins.cell_of_block hS 1).trans rfl))
       go_loopw [38] (fun v wr => ∃ q i' : Nat, v = .int .i64 q ∧ q ≤ m.f1.toNat ∧ q + i + 1 ≤ i' ∧ i' ≤ l.length ∧ kidsF (treeF K l d (deep + 1) m.f0) (m.f1.toNat - q) i' = some (r, j) ∧ w.grownBy wr (some a) ∧ wr.heap[a]? = some (.cells #[.int .i64 (i' : Int)] 3 (0, 0)) ∧ wr.heap[w.heap.size]? = some (.cells #[.int .i64 m.f0, .int .i64 m.f1, .string m.f2, .int .i64 m.f3, .int .i64 m.f4.f0, .int .i64 m.f4.f1] 35 (0, 0)))
        (fun v _ => m.f1.toNat - (intOf v).toNat)
       case atStart => exact ⟨0, i + 1, rfl, Nat.zero_le _, by omega, by omega, h, hgr, hat, hS⟩
       case round =>
        obtain ⟨q, i', rfl, hq, hqi, hi', hk, hg, hA', hS'⟩ := hrel
        clear hcA hfA hcN hcT hcA1 hfA1 hne1 hne2 x0 x1 x2 x3 x4 x5 hs0 hs1 hb2 hS hgr hat c1z c1y c1x
        have hcS0 : wr.cell? ⟨w.heap.size, 0, none⟩ = some (.int .i64 m.f0) := (Joins.cell_of_block hS' 0).trans rfl
        have hT' : TB wr a n t (some ad) l.length c0 i' := hT.on hg hA'
        have hcT' := cell_of_one hT'.tree
        have hbr : Below w0.heap.size w0 wr := hb.grown hg hb.size (fun k hk => by cases hk; exact ha)
        have hq64 : (q : Int) < 64 := by omega
        by_cases c5 : (q : Int) < m.f1
        ·rw [show m.f1.toNat - q = (m.f1.toNat - (q + 1)) + 1 from by omega, kidsF] at hk
         obtain ⟨⟨b, i2⟩, hk1, hk⟩ := Option.bind_eq_some_iff.mp hk
         have hlt2 := treeF_lt K l d _ _ _ _ _ hk1
         cases b with
         | false =>
          obtain ⟨rfl, rfl⟩ := Prod.mk.inj (Option.some.inj hk)
          go_wp2_with (go_at_call 12; go_must (refine (ih (deep + 1) m.f0 i' _ _ wr (by omega) hi' hk1 hbr hT').mono ?_; rintro e w2 ⟨rfl, hg2, hj2, hA2⟩))
          go_ret
          exact ⟨rfl, by first | exact ⟨hg.trans hg2, hj2, hA2⟩ | exact ⟨hg.trans hg2, hA2⟩⟩
         | true =>
          have hk : kidsF (treeF K l d (deep + 1) m.f0) (m.f1.toNat - (q + 1)) i2 = some (r, j) := hk
          have hlt3 : i' < i2 := hlt2.2 rfl
          go_wp2_with (go_at_call 12; go_must (refine (ih (deep + 1) m.f0 i' _ _ wr (by omega) hi' hk1 hbr hT').mono ?_; rintro e w2 ⟨rfl, hg2, hj2, hA2⟩))
          go_roundw
          case rel => exact ⟨q + 1, i2, by go_num, by omega, by omega, hj2, hk, hg.trans hg2, hA2, (hg2.block w.heap.size (lt_of_block hS') (by have := lt_of_block hT.at_; simp; omega)).trans hS'⟩
          case measure => simp [intOf]; omega
        ·rw [show m.f1.toNat - q = 0 from by omega, kidsF] at hk
         obtain ⟨rfl, rfl⟩ := Prod.mk.inj (Option.some.inj hk)
         go_wp2
         go_ret
         exact ⟨rfl, by first | exact ⟨hg, hi', hA'⟩ | exact ⟨hg, hA'⟩⟩
      ·rw [if_pos ⟨c3, c4⟩] at h
       obtain ⟨rfl, rfl⟩ := Prod.mk.inj (Option.some.inj h)
       have e1 : (m.f0 == under) = true := beq_iff_eq.2 c3
       have e2 : (under != 3) = true := bne_iff_ne.2 c4
       clear c3 c4
       go_enter Tryd.func12, Tryd.ntmps12
       go_wp2_with (go_at_call 13; go_must (refine (traits_formed.calls K m.f0 m.f1 m.f2 m.f3 m.f4.f0 m.f4.f1 _ _ hok (hG.at (below_sp hb ha _ _))).mono ?_; rintro e w' ⟨rfl, hb2⟩; obtain ⟨hgr, hat, hS⟩ := after_sa hT.at_ hb2; have hs0 : w'.cell? ⟨w.heap.size, 0, none⟩ = some (.int .i64 m.f0) := (Joins.cell_of_block hS 0).trans rfl; have hs1 : w'.cell? ⟨w.heap.size, 1, none⟩ = some (.int .i64 m.f1) := (Joins.cell_of_block hS 1).trans rfl))
       go_ret
       exact ⟨rfl, hgr, by omega, by simpa using hat⟩
     ·rw [if_neg (fun q => c3 q.1)] at h
      have e1 : (m.f0 == under) = false := beq_eq_false_iff_ne.2 c3
      clear c3
      go_enter Tryd.func12, Tryd.ntmps12
      go_wp2_with (go_at_call 13; go_must (refine (traits_formed.calls K m.f0 m.f1 m.f2 m.f3 m.f4.f0 m.f4.f1 _ _ hok (hG.at (below_sp hb ha _ _))).mono ?_; rintro e w' ⟨rfl, hb2⟩; obtain ⟨hgr, hat, hS⟩ := after_sa hT.at_ hb2; have hs0 : w'.cell? ⟨w.heap.size, 0, none⟩ = some (.int .i64 m.f0) := (Joins.cell_of_block hS 0).trans rfl; have hs1 : w'.cell? ⟨w.heap.size, 1, none⟩ = some (.int .i64 m.f1) := (Joins.cell_of_block hS 1).trans rfl))
      go_loopw [38] (fun v wr => ∃ q i' : Nat, v = .int .i64 q ∧ q ≤ m.f1.toNat ∧ q + i + 1 ≤ i' ∧ i' ≤ l.length ∧ kidsF (treeF K l d (deep + 1) m.f0) (m.f1.toNat - q) i' = some (r, j) ∧ w.grownBy wr (some a) ∧ wr.heap[a]? = some (.cells #[.int .i64 (i' : Int)] 3 (0, 0)) ∧ wr.heap[w.heap.size]? = some (.cells #[.int .i64 m.f0, .int .i64 m.f1, .string m.f2, .int .i64 m.f3, .int .i64 m.f4.f0, .int .i64 m.f4.f1] 35 (0, 0)))
       (fun v _ => m.f1.toNat - (intOf v).toNat)
      case atStart => exact ⟨0, i + 1, rfl, Nat.zero_le _, by omega, by omega, h, hgr, hat, hS⟩
      case round =>
       obtain ⟨q, i', rfl, hq, hqi, hi', hk, hg, hA', hS'⟩ := hrel
       clear hcA hfA hcN hcT hcA1 hfA1 hne1 hne2 x0 x1 x2 x3 x4 x5 hs0 hs1 hb2 hS hgr hat c1z c1y c1x
       have hcS0 : wr.cell? ⟨w.heap.size, 0, none⟩ = some (.int .i64 m.f0) := (Joins.cell_of_block hS' 0).trans rfl
       have hT' : TB wr a n t (some ad) l.length c0 i' := hT.on hg hA'
       have hcT' := cell_of_one hT'.tree
       have hbr : Below w0.heap.size w0 wr := hb.grown hg hb.size (fun k hk => by cases hk; exact ha)
       have hq64 : (q : Int) < 64 := by omega
       by_cases c5 : (q : Int) < m.f1
       ·rw [show m.f1.toNat - q = (m.f1.toNat - (q + 1)) + 1 from by omega, kidsF] at hk
        obtain ⟨⟨b, i2⟩, hk1, hk⟩ := Option.bind_eq_some_iff.mp hk
        have hlt2 := treeF_lt K l d _ _ _ _ _ hk1
        cases b with
        | false =>
         obtain ⟨rfl, rfl⟩ := Prod.mk.inj (Option.some.inj hk)
         go_wp2_with (go_at_call 12; go_must (refine (ih (deep + 1) m.f0 i' _ _ wr (by omega) hi' hk1 hbr hT').mono ?_; rintro e w2 ⟨rfl, hg2, hj2, hA2⟩))
         go_ret
         exact ⟨rfl, by first | exact ⟨hg.trans hg2, hj2, hA2⟩ | exact ⟨hg.trans hg2, hA2⟩⟩
        | true =>
         have hk : kidsF (treeF K l d (deep + 1) m.f0) (m.f1.toNat - (q + 1)) i2 = some (r, j) := hk
         have hlt3 : i' < i2 := hlt2.2 rfl
         go_wp2_with (go_at_call 12; go_must (refine (ih (deep + 1) m.f0 i' _ _ wr (by omega) hi' hk1 hbr hT').mono ?_; rintro e w2 ⟨rfl, hg2, hj2, hA2⟩))
         go_roundw
         case rel => exact ⟨q + 1, i2, by go_num, by omega, by omega, hj2, hk, hg.trans hg2, hA2, (hg2.block w.heap.size (lt_of_block hS') (by have := lt_of_block hT.at_; simp; omega)).trans hS'⟩
         case measure => simp [intOf]; omega
       ·rw [show m.f1.toNat - q = 0 from by omega, kidsF] at hk
        obtain ⟨rfl, rfl⟩ := Prod.mk.inj (Option.some.inj hk)
        go_wp2
        go_ret
        exact ⟨rfl, by first | exact ⟨hg, hi', hA'⟩ | exact ⟨hg, hA'⟩⟩
theorem three_allocs (w : World) (o1 o2 o3 : Obj) : (((w.alloc o1).alloc o2).alloc o3).heap[w.heap.size]? = some o1 ∧ (((w.alloc o1).alloc o2).alloc o3).heap[w.heap.size + 1]? = some o2 ∧ (((w.alloc o1).alloc o2).alloc o3).heap[w.heap.size + 2]? = some o3 := by
 have h1 := (MapKept.heap_alloc w o1).1
 have h2 := (MapKept.heap_alloc (w.alloc o1) o2).1
 have h3 := (MapKept.heap_alloc ((w.alloc o1).alloc o2) o3).1
 have s1 : (w.alloc o1).heap.size = w.heap.size + 1 := by simp
 have s2 : ((w.alloc o1).alloc o2).heap.size = w.heap.size + 2 := by simp
 rw [s1] at h2
 rw [s2] at h3
 exact ⟨(Below.heap_alloc _ _ _ (by rw [s2]; omega)).trans ((Below.heap_alloc _ _ _ (by rw [s1]; omega)).trans h1), (Below.heap_alloc _ _ _ (by rw [s2]; omega)).trans h2, h3⟩
theorem below3 (w : World) (o1 o2 o3 : Obj) : Below w.heap.size w (((w.alloc o1).alloc o2).alloc o3) :=
 (((Below.refl _ _).alloc (Nat.le_refl _) _).alloc (by simp) _).alloc (by simp; omega) _
theorem traits_Check.calls (k : Nat) (A0 : Option Addr) (c0 : Nat) (l0 : List S35) (r : Int) (w : World) (hr0 : Kd.C k35 w A0 l0.length l0) (hc0 : l0.length ≤ c0) (h : traits_Check.f k l0 = some r) (hG : GT w) :
  Calls Tryd.prog 7 #[.slice A0 l0.length c0] w fun e w' => e = .returned (.int .i64 r) ∧ Below w.heap.size w w' := by
 rw [traits_Check.f] at h
 by_cases c1 : l0.length = 0
 ·rw [if_pos c1] at h
  obtain rfl := Option.some.inj h
  have c1z : (l0.length : Int) = 0 := by omega
  go_enter Tryd.func7, Tryd.ntmps7
  go_wp2
  go_ret
  exact ⟨rfl, (Below.refl _ _).alloc (Nat.le_refl _) _⟩
 ·rw [if_neg c1] at h
  have c1z : ¬ (l0.length : Int) = 0 := by omega
  by_cases c2 : 64 < l0.length
  ·rw [if_pos c2] at h
   obtain rfl := Option.some.inj h
   have c2z : 64 < (l0.length : Int) := by omega
   go_enter Tryd.func7, Tryd.ntmps7
   go_wp2
   go_ret
   exact ⟨rfl, (Below.refl _ _).alloc (Nat.le_refl _) _⟩
  ·rw [if_neg c2] at h
   have c2z : ¬ 64 < (l0.length : Int) := by omega
   obtain ⟨⟨b, j⟩, ht, h⟩ := Option.map_eq_some_iff.mp h
   have hmf : ∀ (fn : Fn) (first cap : Array Value) (w : World), (Instr.makeFunc fn first cap).run Tryd.prog w = .ok (.func fn first cap) w := fun _ _ _ _ => rfl
   have hsf := fun (a : Addr) (c : Array Value) (w : World) => run_store Tryd.prog w a (.func (.func 12) #[] c) .plain rfl
   obtain ⟨W3, hW3⟩ : ∃ W3, ((w.alloc (.cells #[.slice A0 l0.length c0] 22)).alloc (.cells #[.int .i64 0] 3)).alloc (.cells #[.func (.func 12) #[] #[.pointer (some ⟨w.heap.size + 1, 0, none⟩), .pointer (some ⟨w.heap.size, 0, none⟩), .pointer (some ⟨w.heap.size + 1 + 1, 0, none⟩)]] 43) = W3 := ⟨_, rfl⟩
   have hB3 : Below w.heap.size w W3 := by rw [← hW3]; exact below3 w _ _ _
   have hT3 : TB W3 (w.heap.size + 1) w.heap.size (w.heap.size + 1 + 1) A0 l0.length c0 0 := by
    rw [← hW3]
    exact ⟨(three_allocs w _ _ _).2.1, (three_allocs w _ _ _).1, (three_allocs w _ _ _).2.2⟩
   have hcall := tree_calls k w l0 A0 c0 hr0 (by omega) hG (w.heap.size + 1) w.heap.size (w.heap.size + 1 + 1) (by omega) 20 1 0 0 b j W3 (by omega) (by omega) ht hB3 hT3
   have hfin : ∀ w', W3.grownBy w' (some (w.heap.size + 1)) → Below w.heap.size w w' := fun w' hg => hB3.grown hg hB3.size (fun k hk => by cases hk; exact Nat.le_succ _)
   have hnod : ∀ w', W3.grownBy w' (some (w.heap.size + 1)) → w'.heap[w.heap.size + 1]? = some (.cells #[.int .i64 (j : Int)] 3 (0, 0)) → w'.cell? ⟨w.heap.size, 0, none⟩ = some (.slice A0 l0.length c0) := fun w' hg hA => cell_of_one (hT3.on hg hA).nodes
   rw [← hW3] at hcall hfin hnod
   clear hT3 hB3 hW3 W3 ht hr0
   cases b with
   | false =>
    obtain rfl : (131 : Int) = r := h
    go_enter Tryd.func7, Tryd.ntmps7
    go_wp2_with (go_at_call 12; go_must (refine hcall.mono ?_; rintro e w' ⟨rfl, hg, hj, hA⟩; have hcA := cell_of_one hA; have hcN := hnod w' hg hA; have hbf := hfin w' hg))
    go_ret
    exact ⟨rfl, hbf⟩
   | true =>
    by_cases c3 : j = l0.length
    ·obtain rfl : (0 : Int) = r := by rw [← h]; exact (if_pos ⟨rfl, c3⟩).symm
     have c3z : ((j : Int) != (l0.length : Int)) = false := by rw [c3]; simp
     go_enter Tryd.func7, Tryd.ntmps7
     go_wp2_with (go_at_call 12; go_must (refine hcall.mono ?_; rintro e w' ⟨rfl, hg, hj, hA⟩; have hcA := cell_of_one hA; have hcN := hnod w' hg hA; have hbf := hfin w' hg))
     go_ret
     exact ⟨rfl, hbf⟩
    ·obtain rfl : (131 : Int) = r := by rw [← h]; exact (if_neg (fun q => c3 q.2)).symm
     have c3z : ((j : Int) != (l0.length : Int)) = true := bne_iff_ne.2 (by omega)
     go_enter Tryd.func7, Tryd.ntmps7
     go_wp2_with (go_at_call 12; go_must (refine hcall.mono ?_; rintro e w' ⟨rfl, hg, hj, hA⟩; have hcA := cell_of_one hA; have hcN := hnod w' hg hA; have hbf := hfin w' hg))
     go_ret
     exact ⟨rfl, hbf⟩
theorem kidsF_mono {T T' : Nat → Option (Bool × Nat)} (h : ∀ i, LeO (T i) (T' i)) : ∀ m i, LeO (kidsF T m i) (kidsF T' m i)
 | 0, i => LeO.refl _
 | m + 1, i => fun r hr => by
  rw [kidsF] at hr ⊢
  obtain ⟨⟨b, i2⟩, h1, h2⟩ := Option.bind_eq_some_iff.mp hr
  rw [h i _ h1, Option.bind_some]
  cases b with
  | false => exact h2
  | true => exact kidsF_mono h m i2 r h2
theorem treeF_mono (K : Nat) (l : List S35) : ∀ (d : Nat) (deep under : Int) (i : Nat), LeO (treeF K l d deep under i) (treeF (K + 1) l d deep under i)
 | 0, _, _, _ => fun r hr => by simp [treeF] at hr
 | d + 1, deep, under, i => fun r hr => by
  rw [treeF] at hr ⊢
  by_cases c1 : i = l.length
  ·rw [if_pos c1] at hr ⊢; exact hr
  ·rw [if_neg c1] at hr ⊢
   by_cases c2 : 16 < deep
   ·rw [if_pos c2] at hr ⊢; exact hr
   ·rw [if_neg c2] at hr ⊢
    obtain ⟨ok, h1, h2⟩ := Option.bind_eq_some_iff.mp hr
    rw [traits_formed.mono _ _ _ _ _ _ _ _ h1, Option.bind_some]
    by_cases c3 : ok = true
    ·rw [if_pos c3] at h2 ⊢
     split at h2
     ·rename_i c4; rw [if_pos c4]; exact h2
     ·rename_i c4; rw [if_neg c4]; exact kidsF_mono (fun i => treeF_mono K l d _ _ i) _ _ r h2
    ·rw [if_neg c3] at h2 ⊢; exact h2
theorem traits_Check.mono : ∀ l0 k, LeO (traits_Check.f k l0) (traits_Check.f (k + 1) l0) := fun l0 k r hr => by
 rw [traits_Check.f] at hr ⊢
 by_cases c1 : l0.length = 0
 ·rw [if_pos c1] at hr ⊢; exact hr
 ·rw [if_neg c1] at hr ⊢
  by_cases c2 : 64 < l0.length
  ·rw [if_pos c2] at hr ⊢; exact hr
  ·rw [if_neg c2] at hr ⊢
   obtain ⟨x, h1, h2⟩ := Option.map_eq_some_iff.mp hr
   exact Option.map_eq_some_iff.mpr ⟨x, treeF_mono k l0 20 1 0 0 x h1, h2⟩
def traits_words.l0 : Nat → List ByteArray → List ByteArray → Int → Int → Option (Bool)
 | 0, _, _, _, _ => none
 | k + 1, x0, x8, x9, x10 => if x10 < x9 then (if 0 ≤ x10 then (if x10 < (x8.length : Int) then ((tokens_Word.f (rdOf ByteArray.empty x8 x10)).bind fun t113 => (if t113 = true then (if x10 > 0 then (if 0 ≤ (wrap64 (x10 - 1)) then (if (wrap64 (x10 - 1)) < (x0.length : Int) then (if ((Op.bytesLess ((rdOf ByteArray.empty x0 (wrap64 (x10 - 1))).toList) ((rdOf ByteArray.empty x8 x10).toList)) = true) then (traits_words.l0 k x0 x8 x9 (wrap64 (x10 + 1))) else (some false)) else (none)) else (none)) else (traits_words.l0 k x0 x8 x9 (wrap64 (x10 + 1)))) else (some false))) else (none)) else (none)) else (some true)
def traits_words.f (k : Nat) (l0 : List ByteArray) : Option (Bool) := if (l0.length : Int) > 16 then (some false) else (traits_words.l0 k l0 l0 (l0.length : Int) 0)
theorem traits_words.mono_l : ∀ k, (∀ y0 y1 y2 y3, LeO (traits_words.l0 k y0 y1 y2 y3) (traits_words.l0 (k + 1) y0 y1 y2 y3))
 | 0 => fun _ _ _ _ r h => by simp [traits_words.l0] at h
 | k + 1 => by
  have ih0 := traits_words.mono_l k
  ·intro y0 y1 y2 y3
   unfold traits_words.l0
   repeat' first
   | (with_reducible exact ih0 _ _ _ _)
   | (with_reducible exact LeO.refl _)
   | (with_reducible exact LeO.none _)
   | (with_reducible refine LeO.ite ?_ ?_)
   | (with_reducible refine LeO.bind ?_ (fun _ => ?_))
   | exact ih0 _ _ _ _
   | exact LeO.none _
   | refine LeO.ite ?_ ?_
   | refine LeO.bind ?_ (fun _ => ?_)
theorem traits_words.mono : ∀ a0 k, LeO (traits_words.f k a0) (traits_words.f (k + 1) a0) := by
 intro a0 k
 have ih0 := traits_words.mono_l k
 unfold traits_words.f
 repeat' first
   | (with_reducible exact ih0 _ _ _ _)
   | (with_reducible exact LeO.refl _)
   | (with_reducible exact LeO.none _)
   | (with_reducible refine LeO.ite ?_ ?_)
   | (with_reducible refine LeO.bind ?_ (fun _ => ?_))
   | exact ih0 _ _ _ _
   | exact LeO.none _
   | refine LeO.ite ?_ ?_
   | refine LeO.bind ?_ (fun _ => ?_)
set_option maxHeartbeats 8000000 in
set_option maxRecDepth 100000 in
theorem traits_words.calls (k : Nat) (A0 : Option Addr) (c0 : Nat) (l0 : List ByteArray) (r : Bool) (w : World) (hr0 : Kd.C Kd.string w A0 l0.length l0) (hc0 : l0.length ≤ c0) (h : traits_words.f k l0 = some r) (hG : GT w) :
  Calls Tryd.prog 14 #[.slice A0 l0.length c0] w fun e w' => e = .returned (.bool r) ∧ Below w.heap.size w w' := by
 have HR0 := Aside0.mk hr0
 have HC0 := Aside0.mk hc0
 clear hr0 hc0
 have HB := Aside0.mk (Below.refl w.heap.size w)
 have H : (if (l0.length : Int) > 16 then (some false) else (traits_words.l0 k l0 l0 (l0.length : Int) 0)) = some r := h
 clear h
 by_cases c2 : (l0.length : Int) > 16
 ·rw [if_pos c2] at H
  have c2b0 : decide (16 < (l0.length : Int)) = true := decide_eq_true c2
  have c2b1 : decide (16 < l0.length) = true := decide_eq_true (by omega)
  clear c2
  obtain rfl := Option.some.inj H
  go_enter Tryd.func14, Tryd.ntmps14
  go_wp2
  go_ret
  exact ⟨rf_, (hb0_ HB.out)⟩
 ·rw [if_neg c2] at H
  have c2b0 : decide (16 < (l0.length : Int)) = false := decide_eq_false c2
  have c2b1 : decide (16 < l0.length) = false := decide_eq_false (by omega)
  clear c2
  have H' := Aside0.mk H
  clear H
  go_enter Tryd.func14, Tryd.ntmps14
  go_wp2
  go_loopg [10] k (fun kq v10 w' => ∃ (x10_1 : Int), v10 = .int .i64 x10_1 ∧ Aside0 (traits_words.l0 kq l0 l0 (l0.length : Int) x10_1 = some r) ∧ Aside0 (kq ≤ k) ∧ Aside0 (Below w.heap.size w w'))
  case atStart => exact ⟨(0), (by first | rfl | (simp; done) | (simp [*]; done)), H', ⟨Nat.le_refl _⟩, ⟨(hb0_ HB.out)⟩⟩
  case round =>
   clear H'
   try clear c1
   try clear c2
   try clear c2b0
   try clear c2b1
   try clear p2
   obtain ⟨x10_1, rfl, HA, HK1, HB⟩ := hrel
   cases gk with
   | zero => exact absurd HA.out (by simp [traits_words.l0])
   | succ k1 =>
    have H := HA.out
    clear HA
    simp only [traits_words.l0] at H
    by_cases c3 : x10_1 < (l0.length : Int)
    ·rw [if_pos c3] at H
     have c3b0 : decide (x10_1 < (l0.length : Int)) = true := decide_eq_true c3
     clear c3
     by_cases c4 : 0 ≤ x10_1
     ·rw [if_pos c4] at H
      have c4b0 : decide (0 ≤ x10_1) = true := decide_eq_true c4
      clear c4
      by_cases c5 : x10_1 < (l0.length : Int)
      ·rw [if_pos c5] at H
       have c5b0 : decide (x10_1 < (l0.length : Int)) = true := decide_eq_true c5
       clear c5
       replace H := Option.bind_eq_some_iff.mp H
       obtain ⟨t113, A60, H⟩ := H
       replace H : (if t113 = true then (if x10_1 > 0 then (if 0 ≤ (wrap64 (x10_1 - 1)) then (if (wrap64 (x10_1 - 1)) < (l0.length : Int) then (if ((Op.bytesLess ((rdOf ByteArray.empty l0 (wrap64 (x10_1 - 1))).toList) ((rdOf ByteArray.empty l0 x10_1).toList)) = true) then (traits_words.l0 k1 l0 l0 (l0.length : Int) (wrap64 (x10_1 + 1))) else (some false)) else (none)) else (none)) else (traits_words.l0 k1 l0 l0 (l0.length : Int) (wrap64 (x10_1 + 1)))) else (some false)) = some r := H
       have A6 := Aside0.mk A60
       clear A60
       by_cases c7 : t113 = true
       ·subst c7
        have H1 : (if x10_1 > 0 then (if 0 ≤ (wrap64 (x10_1 - 1)) then (if (wrap64 (x10_1 - 1)) < (l0.length : Int) then (if ((Op.bytesLess ((rdOf ByteArray.empty l0 (wrap64 (x10_1 - 1))).toList) ((rdOf ByteArray.empty l0 x10_1).toList)) = true) then (traits_words.l0 k1 l0 l0 (l0.length : Int) (wrap64 (x10_1 + 1))) else (some false)) else (none)) else (none)) else (traits_words.l0 k1 l0 l0 (l0.length : Int) (wrap64 (x10_1 + 1)))) = some r := by rw [if_pos rfl] at H; exact H
        clear H
        have H := H1
        clear H1
        by_cases c8 : x10_1 > 0
        ·rw [if_pos c8] at H
         have c8b0 : decide (0 < x10_1) = true := decide_eq_true c8
         clear c8
         obtain ⟨ji9, hji9⟩ : ∃ j_ : Int, (wrap64 (x10_1 - 1)) = j_ := ⟨_, rfl⟩
         replace H : (if 0 ≤ (ji9) then (if (ji9) < (l0.length : Int) then (if ((Op.bytesLess ((rdOf ByteArray.empty l0 (ji9)).toList) ((rdOf ByteArray.empty l0 x10_1).toList)) = true) then (traits_words.l0 k1 l0 l0 (l0.length : Int) (wrap64 (x10_1 + 1))) else (some false)) else (none)) else (none)) = some r := by first | (rw [hji9] at H; exact H) | (simp only [hji9] at H ⊢; exact H)
         (try rw [hji9] at A6)
         have hji9w : (IntKind.i64.wrap (x10_1 - 1)) = ji9 := (i64_w _).trans hji9
         by_cases c10 : 0 ≤ (ji9)
         ·rw [if_pos c10] at H
          have c10b0 : decide (0 ≤ (ji9)) = true := decide_eq_true c10
          clear c10
          by_cases c11 : (ji9) < (l0.length : Int)
          ·rw [if_pos c11] at H
           have c11b0 : decide ((ji9) < (l0.length : Int)) = true := decide_eq_true c11
           clear c11
           by_cases c12 : ((Op.bytesLess ((rdOf ByteArray.empty l0 (ji9)).toList) ((rdOf ByteArray.empty l0 x10_1).toList)) = true)
           ·rw [if_pos c12] at H
            have c12b0 : (Op.bytesLess ((rdOf ByteArray.empty l0 (ji9)).toList) ((rdOf ByteArray.empty l0 x10_1).toList)) = true := c12
            clear c12
            have H' := Aside0.mk H
            clear H
            have p112 : 0 ≤ (x10_1 : Int) := od_
            have q112 : x10_1 < (l0.length : Int) := od_
            obtain ⟨ad112, e112, hx112_0⟩ := Kd.at_string HR0.out x10_1 p112 q112
            cases e112
            replace hx112_0 := (HB.out.cell (World.block_lt_of_cell? w _ hx112_0)).trans hx112_0
            replace p112 := eq_true p112
            replace q112 := eq_true q112
            go_wp2_with (first | ((with_reducible refine gate_callee (f := 19) rfl ?_); refine goesL_ (some 16) rfl rfl Tryd.func19 (by kernel_rfl) rfl #[.string (rdOf ByteArray.empty l0 x10_1)] rfl (by (try simp only [List.map_toArray, List.map_cons, List.map_nil]); first | done | rfl | (simp only [List.length_drop, List.length_take]; rfl)) ?_; (with_reducible refine (tokens_Word.calls (rdOf ByteArray.empty l0 x10_1) true _ A6.out (hG.at (hb0_ HB.out))).mono ?_); rintro e w13 ⟨rfl, hb⟩; refine ⟨_, rfl, ?_⟩; have n0_ := Aside0.mk (below_step (hb0_ HB.out) hb); clear HB; have HB := n0_; clear n0_; (try clear hb); (try clear hb2); (try clear hk); (try clear hi); have p114 : 0 ≤ ((ji9) : Int) := od_; have q114 : (ji9) < (l0.length : Int) := od_; obtain ⟨ad114, e114, hx114_0⟩ := Kd.at_string HR0.out (ji9) p114 q114; obtain rfl : ad112 = ad114 := (by injection e114); replace hx114_0 := (HB.out.cell (World.block_lt_of_cell? w _ hx114_0)).trans hx114_0; replace p114 := eq_true p114; replace q114 := eq_true q114))
            go_roundg k1
            case measure => have := HK1.out; omega
            case rel => exact ⟨(wrap64 (x10_1 + 1)), (by first | rfl | (simp; done) | (simp [*]; done)), H', ⟨by have := HK1.out; omega⟩, ⟨(hb0_ HB.out)⟩⟩
           ·rw [if_neg c12] at H
            have c12b0 : (Op.bytesLess ((rdOf ByteArray.empty l0 (ji9)).toList) ((rdOf ByteArray.empty l0 x10_1).toList)) = false := by simpa using c12
            clear c12
            obtain rfl := Option.some.inj H
            have p112 : 0 ≤ (x10_1 : Int) := od_
            have q112 : x10_1 < (l0.length : Int) := od_
            obtain ⟨ad112, e112, hx112_0⟩ := Kd.at_string HR0.out x10_1 p112 q112
            cases e112
            replace hx112_0 := (HB.out.cell (World.block_lt_of_cell? w _ hx112_0)).trans hx112_0
            replace p112 := eq_true p112
            replace q112 := eq_true q112
            go_wp2_with (first | ((with_reducible refine gate_callee (f := 19) rfl ?_); refine goesL_ (some 16) rfl rfl Tryd.func19 (by kernel_rfl) rfl #[.string (rdOf ByteArray.empty l0 x10_1)] rfl (by (try simp only [List.map_toArray, List.map_cons, List.map_nil]); first | done | rfl | (simp only [List.length_drop, List.length_take]; rfl)) ?_; (with_reducible refine (tokens_Word.calls (rdOf ByteArray.empty l0 x10_1) true _ A6.out (hG.at (hb0_ HB.out))).mono ?_); rintro e w14 ⟨rfl, hb⟩; refine ⟨_, rfl, ?_⟩; have n0_ := Aside0.mk (below_step (hb0_ HB.out) hb); clear HB; have HB := n0_; clear n0_; (try clear hb); (try clear hb2); (try clear hk); (try clear hi); have p114 : 0 ≤ ((ji9) : Int) := od_; have q114 : (ji9) < (l0.length : Int) := od_; obtain ⟨ad114, e114, hx114_0⟩ := Kd.at_string HR0.out (ji9) p114 q114; obtain rfl : ad112 = ad114 := (by injection e114); replace hx114_0 := (HB.out.cell (World.block_lt_of_cell? w _ hx114_0)).trans hx114_0; replace p114 := eq_true p114; replace q114 := eq_true q114))
            go_ret
            exact ⟨by first | rfl | (simp [errW_none, errW_some] <;> rfl) | (simp only [← hji9]; first | rfl | (simp [errW_none, errW_some] <;> rfl)) | (simp [*, errW_none, errW_some] <;> rfl), (hb0_ HB.out)⟩
          ·rw [if_neg c11] at H
           exact absurd H (by simp)
         ·rw [if_neg c10] at H
          exact absurd H (by simp)
        ·rw [if_neg c8] at H
         have c8b0 : decide (0 < x10_1) = false := decide_eq_false c8
         clear c8
         have H' := Aside0.mk H
         clear H
         have p112 : 0 ≤ (x10_1 : Int) := od_
         have q112 : x10_1 < (l0.length : Int) := od_
         obtain ⟨ad112, e112, hx112_0⟩ := Kd.at_string HR0.out x10_1 p112 q112
         cases e112
         replace hx112_0 := (HB.out.cell (World.block_lt_of_cell? w _ hx112_0)).trans hx112_0
         replace p112 := eq_true p112
         replace q112 := eq_true q112
         go_wp2_with (first | ((with_reducible refine gate_callee (f := 19) rfl ?_); refine goesL_ (some 16) rfl rfl Tryd.func19 (by kernel_rfl) rfl #[.string (rdOf ByteArray.empty l0 x10_1)] rfl (by (try simp only [List.map_toArray, List.map_cons, List.map_nil]); first | done | rfl | (simp only [List.length_drop, List.length_take]; rfl)) ?_; (with_reducible refine (tokens_Word.calls (rdOf ByteArray.empty l0 x10_1) true _ A6.out (hG.at (hb0_ HB.out))).mono ?_); rintro e w15 ⟨rfl, hb⟩; refine ⟨_, rfl, ?_⟩; have n0_ := Aside0.mk (below_step (hb0_ HB.out) hb); clear HB; have HB := n0_; clear n0_; (try clear hb); (try clear hb2); (try clear hk); (try clear hi)))
         go_roundg k1
         case measure => have := HK1.out; omega
         case rel => exact ⟨(wrap64 (x10_1 + 1)), (by first | rfl | (simp; done) | (simp [*]; done)), H', ⟨by have := HK1.out; omega⟩, ⟨(hb0_ HB.out)⟩⟩
       ·replace c7 := Bool.eq_false_iff.mpr c7
        subst c7
        have H1 : (some false) = some r := by rw [if_neg (show ¬ (false = true) by decide)] at H; exact H
        clear H
        have H := H1
        clear H1
        obtain rfl := Option.some.inj H
        have p112 : 0 ≤ (x10_1 : Int) := od_
        have q112 : x10_1 < (l0.length : Int) := od_
        obtain ⟨ad112, e112, hx112_0⟩ := Kd.at_string HR0.out x10_1 p112 q112
        cases e112
        replace hx112_0 := (HB.out.cell (World.block_lt_of_cell? w _ hx112_0)).trans hx112_0
        replace p112 := eq_true p112
        replace q112 := eq_true q112
        go_wp2_with (first | ((with_reducible refine gate_callee (f := 19) rfl ?_); refine goesL_ (some 16) rfl rfl Tryd.func19 (by kernel_rfl) rfl #[.string (rdOf ByteArray.empty l0 x10_1)] rfl (by (try simp only [List.map_toArray, List.map_cons, List.map_nil]); first | done | rfl | (simp only [List.length_drop, List.length_take]; rfl)) ?_; (with_reducible refine (tokens_Word.calls (rdOf ByteArray.empty l0 x10_1) false _ A6.out (hG.at (hb0_ HB.out))).mono ?_); rintro e w16 ⟨rfl, hb⟩; refine ⟨_, rfl, ?_⟩; have n0_ := Aside0.mk (below_step (hb0_ HB.out) hb); clear HB; have HB := n0_; clear n0_; (try clear hb); (try clear hb2); (try clear hk); (try clear hi)))
        go_ret
        exact ⟨rf_, (hb0_ HB.out)⟩
      ·rw [if_neg c5] at H
       exact absurd H (by simp)
     ·rw [if_neg c4] at H
      exact absurd H (by simp)
    ·rw [if_neg c3] at H
     have c3b0 : decide (x10_1 < (l0.length : Int)) = false := decide_eq_false c3
     clear c3
     obtain rfl := Option.some.inj H
     go_wp2
     go_ret
     exact ⟨rf_, (hb0_ HB.out)⟩
end Go.Proofs.YtlboolhjfffppaaDoor.PTBL
