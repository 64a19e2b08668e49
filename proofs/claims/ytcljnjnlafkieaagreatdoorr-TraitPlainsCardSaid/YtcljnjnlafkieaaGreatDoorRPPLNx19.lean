-- Written by this session's program (wip/tools/pr.py over the kit's print).
import Derived.Test.YtcljnjnlafkieaaGreatDoorRPh
import Derived.Test.YtcljnjnlafkieaaGreatDoorRPPLNx0
import Derived.Test.YtcljnjnlafkieaaGreatDoorRPPLNx3
import Derived.Test.YtcljnjnlafkieaaGreatDoorRPPLNx5
import Derived.Test.YtcljnjnlafkieaaGreatDoorRPPLNx17
import Derived.Test.YtcljnjnlafkieaaGreatDoorRPPLNx18
namespace Go.Proofs.YtcljnjnlafkieaaGreatDoorR.PPLN
open Go.RowKit Go.Proofs.YtcljnjnlafkieaaGreatDoorRW.PrintWords Go.Proofs.YtcljnjnlafkieaaGreatDoorRW.PrintLast Go.Proofs.YtcljnjnlafkieaaGreatDoorRW.PrintMore
attribute [local go_sem] max2_int min2_int max_two min_two max_three min_three max_four min_four
set_option linter.unusedVariables false
set_option linter.unusedSimpArgs false
def kidsH (T : Nat → Option (Bool × Nat)) : Nat → Nat → Nat → Option (Nat × Nat)
 | 0, s, i => some (s, i)
 | m + 1, s, i => (T i).bind fun x => kidsH T m (if x.1 = true then s + 1 else s) x.2
def holdsF (T : S45 → Option Bool) (l : List S45) : Nat → Nat → Option (Bool × Nat)
 | 0, _ => none
 | d + 1, i =>
  if i < l.length then
   if (rd_T45 l (i : Int)).f0 = 1 ∨ (rd_T45 l (i : Int)).f0 = 2 then
    (kidsH (holdsF T l d) (rd_T45 l (i : Int)).f1.toNat 0 (i + 1)).map fun x => (decide ((x.1 : Int) = (rd_T45 l (i : Int)).f1) || (decide ((rd_T45 l (i : Int)).f0 = 1) && decide (0 < (x.1 : Int))), x.2)
   else if (rd_T45 l (i : Int)).f0 = 3 then (holdsF T l d (i + 1)).map fun x => (!x.1, x.2)
   else (T (rd_T45 l (i : Int))).map fun b => (b, i + 1)
  else none
def testF (K : Nat) (lB lL : List ByteArray) (fa fd fq : Int) (m : S45) : Option Bool := traits_test.f K m.f0 m.f1 m.f2 m.f3 m.f4.f0 m.f4.f1 lB lL fa fd fq
def traits_Holds.f (k : Nat) (l0 : List S45) (lB lL : List ByteArray) (fa fd fq : Int) : Option (Bool × Int) :=
 (traits_Check.f k l0).bind fun e => if e = 0 then (traits_Fit.f k lB lL fa fd fq).bind fun g => if g = 0 then (if l0.length = 0 then some (true, 0) else (holdsF (testF k lB lL fa fd fq) l0 20 0).map fun x => (x.1, 0)) else some (false, g) else some (false, e)
theorem kidsH_mono {T T' : Nat → Option (Bool × Nat)} (h : ∀ i, LeO (T i) (T' i)) : ∀ m s i, LeO (kidsH T m s i) (kidsH T' m s i)
 | 0, _, _ => LeO.refl _
 | m + 1, s, i => fun r hr => by
  rw [kidsH] at hr ⊢
  obtain ⟨⟨b, i2⟩, h1, h2⟩ := Option.bind_eq_some_iff.mp hr
  rw [h i _ h1, Option.bind_some]
  exact kidsH_mono h m _ i2 r h2
theorem holdsF_mono {T T' : S45 → Option Bool} (h : ∀ m, LeO (T m) (T' m)) (l : List S45) : ∀ (d i : Nat), LeO (holdsF T l d i) (holdsF T' l d i)
 | 0, _ => fun r hr => by simp [holdsF] at hr
 | d + 1, i => fun r hr => by
  rw [holdsF] at hr ⊢
  by_cases c1 : i < l.length
  ·rw [if_pos c1] at hr ⊢
   by_cases c2 : (rd_T45 l (i : Int)).f0 = 1 ∨ (rd_T45 l (i : Int)).f0 = 2
   ·rw [if_pos c2] at hr ⊢
    obtain ⟨x, h1, h2⟩ := Option.map_eq_some_iff.mp hr
    exact Option.map_eq_some_iff.mpr ⟨x, kidsH_mono (holdsF_mono h l d) _ _ _ x h1, h2⟩
   ·rw [if_neg c2] at hr ⊢
    by_cases c3 : (rd_T45 l (i : Int)).f0 = 3
    ·rw [if_pos c3] at hr ⊢
     obtain ⟨x, h1, h2⟩ := Option.map_eq_some_iff.mp hr
     exact Option.map_eq_some_iff.mpr ⟨x, holdsF_mono h l d _ x h1, h2⟩
    ·rw [if_neg c3] at hr ⊢
     obtain ⟨x, h1, h2⟩ := Option.map_eq_some_iff.mp hr
     exact Option.map_eq_some_iff.mpr ⟨x, h _ x h1, h2⟩
  ·rw [if_neg c1] at hr; cases hr
theorem traits_Holds.mono : ∀ l0 lB lL fa fd fq k, LeO (traits_Holds.f k l0 lB lL fa fd fq) (traits_Holds.f (k + 1) l0 lB lL fa fd fq) := fun l0 lB lL fa fd fq k r hr => by
 rw [traits_Holds.f] at hr ⊢
 obtain ⟨e, h1, h2⟩ := Option.bind_eq_some_iff.mp hr
 rw [traits_Check.mono l0 k _ h1, Option.bind_some]
 by_cases c1 : e = 0
 ·rw [if_pos c1] at h2 ⊢
  obtain ⟨g, h3, h4⟩ := Option.bind_eq_some_iff.mp h2
  rw [traits_Fit.mono _ _ _ _ _ k _ h3, Option.bind_some]
  by_cases c2 : g = 0
  ·rw [if_pos c2] at h4 ⊢
   by_cases c3 : l0.length = 0
   ·rw [if_pos c3] at h4 ⊢; exact h4
   ·rw [if_neg c3] at h4 ⊢
    obtain ⟨x, h5, h6⟩ := Option.map_eq_some_iff.mp h4
    exact Option.map_eq_some_iff.mpr ⟨x, holdsF_mono (fun m => traits_test.mono _ _ _ _ _ _ _ _ _ _ _ k) l0 20 0 x h5, h6⟩
  ·rw [if_neg c2] at h4 ⊢; exact h4
 ·rw [if_neg c1] at h2 ⊢; exact h2
theorem kidsH_lt (T : Nat → Option (Bool × Nat)) (hT : ∀ i r j, T i = some (r, j) → i < j) : ∀ m s i r j, kidsH T m s i = some (r, j) → i ≤ j
 | 0, s, i, r, j, h => by
  obtain ⟨_, rfl⟩ := Prod.mk.inj (Option.some.inj h); exact Nat.le_refl _
 | m + 1, s, i, r, j, h => by
  rw [kidsH] at h
  obtain ⟨⟨b, i2⟩, h1, h⟩ := Option.bind_eq_some_iff.mp h
  have := hT _ _ _ h1
  exact Nat.le_trans (Nat.le_of_lt this) (kidsH_lt T hT m _ i2 r j h)
theorem holdsF_lt (T : S45 → Option Bool) (l : List S45) : ∀ (d i : Nat) (r : Bool) (j : Nat), holdsF T l d i = some (r, j) → i < j
 | 0, _, _, _, h => by simp [holdsF] at h
 | d + 1, i, r, j, h => by
  rw [holdsF] at h
  split at h
  ·split at h
   ·obtain ⟨x, h1, h2⟩ := Option.map_eq_some_iff.mp h
    obtain ⟨_, rfl⟩ := Prod.mk.inj h2
    have := kidsH_lt _ (holdsF_lt T l d) _ _ _ _ _ h1; omega
   ·split at h
    ·obtain ⟨x, h1, h2⟩ := Option.map_eq_some_iff.mp h
     obtain ⟨_, rfl⟩ := Prod.mk.inj h2
     have := holdsF_lt T l d _ _ _ h1; omega
    ·obtain ⟨x, h1, h2⟩ := Option.map_eq_some_iff.mp h
     obtain ⟨_, rfl⟩ := Prod.mk.inj h2
     omega
  ·cases h
structure TH (w : World) (n a t fb : Nat) (A0 : Option Addr) (len c0 : Nat) (F : Array Value) (i : Nat) : Prop where
 at_ : w.heap[a]? = some (.cells #[.int .i64 (i : Int)] 3 (0, 0))
 nodes : w.heap[n]? = some (.cells #[.slice A0 len c0] 22 (0, 0))
 facts : w.heap[fb]? = some (.cells F 35 (0, 0))
 tree : w.heap[t]? = some (.cells #[.func (.func 31) #[] #[.pointer (some ⟨n, 0, none⟩), .pointer (some ⟨a, 0, none⟩), .pointer (some ⟨t, 0, none⟩), .pointer (some ⟨fb, 0, none⟩)]] 32 (0, 0))
theorem TH.na {w : World} {n a t fb : Nat} {A0 : Option Addr} {len c0 i : Nat} {F : Array Value} (h : TH w n a t fb A0 len c0 F i) : n ≠ a := fun e => by
 have h1 := h.nodes; rw [e, h.at_] at h1; simp at h1
theorem TH.ta {w : World} {n a t fb : Nat} {A0 : Option Addr} {len c0 i : Nat} {F : Array Value} (h : TH w n a t fb A0 len c0 F i) : t ≠ a := fun e => by
 have h1 := h.tree; rw [e, h.at_] at h1; simp at h1
theorem TH.fa {w : World} {n a t fb : Nat} {A0 : Option Addr} {len c0 i : Nat} {F : Array Value} (h : TH w n a t fb A0 len c0 F i) : fb ≠ a := fun e => by
 have h1 := h.facts; rw [e, h.at_] at h1; simp at h1
theorem TH.on {w w' : World} {n a t fb : Nat} {A0 : Option Addr} {len c0 i i' : Nat} {F : Array Value} (h : TH w n a t fb A0 len c0 F i) (hg : w.grownBy w' (some a)) (ha : w'.heap[a]? = some (.cells #[.int .i64 (i' : Int)] 3 (0, 0))) : TH w' n a t fb A0 len c0 F i' :=
 ⟨ha, (hg.block n (lt_of_block h.nodes) (by have := h.na; simpa using this)).trans h.nodes, (hg.block fb (lt_of_block h.facts) (by have := h.fa; simpa using this)).trans h.facts, (hg.block t (lt_of_block h.tree) (by have := h.ta; simpa using this)).trans h.tree⟩
set_option maxRecDepth 100000 in
set_option maxHeartbeats 4000000 in
theorem holds_calls (K : Nat) (w0 : World) (l : List S45) (A0 : Option Addr) (c0 : Nat) (hC : Kd.C k45 w0 A0 l.length l) (hl : l.length ≤ 64) (lB lL : List ByteArray) (AB AL : Option Addr) (cB cL : Nat) (hCB : Kd.C Kd.string w0 AB lB.length lB) (hcB : lB.length ≤ cB) (hCL : Kd.C Kd.string w0 AL lL.length lL) (hcL : lL.length ≤ cL) (fa fd fq : Int) (n a t fb : Nat) (ha : w0.heap.size ≤ a) :
  ∀ (d : Nat) (i : Nat) (b : Bool) (j : Nat) (w : World), i ≤ l.length → holdsF (testF K lB lL fa fd fq) l d i = some (b, j) → Below w0.heap.size w0 w → TH w n a t fb A0 l.length c0 #[.slice AB lB.length cB, .slice AL lL.length cL, .int .i64 fa, .int .i64 fd, .int .i64 fq] i →
   Calls Tryz.prog 31 #[.pointer (some ⟨n, 0, none⟩), .pointer (some ⟨a, 0, none⟩), .pointer (some ⟨t, 0, none⟩), .pointer (some ⟨fb, 0, none⟩)] w fun e w' => e = .returned (.bool b) ∧ w.grownBy w' (some a) ∧ j ≤ l.length ∧ w'.heap[a]? = some (.cells #[.int .i64 (j : Int)] 3 (0, 0))
 | 0, _, _, _, _, _, h, _, _ => by simp [holdsF] at h
 | d + 1, i, b, j, w, hi, h, hb, hT => by
  have ih := holds_calls K w0 l A0 c0 hC hl lB lL AB AL cB cL hCB hcB hCL hcL fa fd fq n a t fb ha d
  have hcA := cell_of_one hT.at_
  have hfA := free_of_one hT.at_
  have hcN := cell_of_one hT.nodes
  have hltA := lt_of_block hT.at_
  have hcA1 : ∀ o, (w.alloc o).cell? ⟨a, 0, none⟩ = some (.int .i64 (i : Int)) := fun o => (((Below.refl w.heap.size w).alloc (Nat.le_refl _) o).cell hltA).trans hcA
  have hfA1 : ∀ o, (w.alloc o).frozen? ⟨a, 0, none⟩ = false := fun o => (((Below.refl w.heap.size w).alloc (Nat.le_refl _) o).frozen hltA).trans hfA
  have hne1 : ¬ a = w.heap.size := by omega
  have hne2 : ¬ w.heap.size = a := by omega
  rw [holdsF] at h
  by_cases c1 : i < l.length
  ·rw [if_pos c1] at h
   have hi64 : (i : Int) < 64 := by omega
   have hi0 : 0 ≤ (i : Int) := by omega
   have hiz : (i : Int) < (l.length : Int) := by omega
   obtain ⟨ad, rfl, x0, x1, x2, x3, x4, x5⟩ := at_T45 (Kd.C_below hC hb) (i : Int) hi0 hiz
   obtain ⟨m, hm⟩ : ∃ m, rd_T45 l (i : Int) = m := ⟨_, rfl⟩
   rw [hm] at x0 x1 x2 x3 x4 x5 h
   simp only [Int.toNat_natCast] at x0 x1 x2 x3 x4 x5
   have hafter := fun (w' : World) (v : Value) (o : Obj) => after_sa (w' := w') (v := v) (o := o) hT.at_
   have hbelow := below_sa hb ha
   have hTon := fun (w' : World) (i' : Nat) => hT.on (w' := w') (i' := i')
   obtain ⟨hgr1, hT1⟩ : w.grownBy ((w.setCell ⟨a, 0, none⟩ (.int .i64 ((i : Int) + 1))).alloc (.cells #[.int .i64 m.f0, .int .i64 m.f1, .string m.f2, .int .i64 m.f3, .int .i64 m.f4.f0, .int .i64 m.f4.f1] 45)) (some a) ∧ TH ((w.setCell ⟨a, 0, none⟩ (.int .i64 ((i : Int) + 1))).alloc (.cells #[.int .i64 m.f0, .int .i64 m.f1, .string m.f2, .int .i64 m.f3, .int .i64 m.f4.f0, .int .i64 m.f4.f1] 45)) n a t fb (some ad) l.length c0 #[.slice AB lB.length cB, .slice AL lL.length cL, .int .i64 fa, .int .i64 fd, .int .i64 fq] (i + 1) := by
    obtain ⟨q1, q2, q3⟩ := hafter _ (.int .i64 ((i : Int) + 1)) (.cells #[.int .i64 m.f0, .int .i64 m.f1, .string m.f2, .int .i64 m.f3, .int .i64 m.f4.f0, .int .i64 m.f4.f1] 45) (Below.refl _ _)
    exact ⟨q1, hTon _ _ q1 (by simpa using q2)⟩
   have hcT1 := cell_of_one hT1.tree
   by_cases c2 : m.f0 = 1 ∨ m.f0 = 2
   ·rw [if_pos c2] at h
    obtain ⟨⟨s, j'⟩, hk, h⟩ := Option.map_eq_some_iff.mp h
    obtain ⟨hv, hj⟩ := Prod.mk.inj h
    have hj : j' = j := hj
    subst hj
    clear h
    rcases c2 with c2 | c2
    ·have e1 : (m.f0 == 1) = true := by rw [c2]; rfl
     have e1' : (1 == m.f0) = true := by rw [c2]; rfl
     have e2 : (m.f0 == 2) = false := by rw [c2]; rfl
     have e2' : (2 == m.f0) = false := by rw [c2]; rfl
     have hfin : (decide ((s : Int) = m.f1) || (true && decide (0 < (s : Int)))) = b := by
      have h2 : (decide ((s : Int) = m.f1) || (decide (m.f0 = 1) && decide (0 < (s : Int)))) = b := hv
      rw [c2] at h2; exact h2
     clear hv c2
     go_enter Tryz.func31, Tryz.ntmps31
     go_wp2
     go_loopw [6, 20] (fun vs v wr => ∃ (q s' i' : Nat), v = .int .i64 q ∧ vs = .int .i64 s' ∧ s' ≤ q ∧ q ≤ m.f1.toNat ∧ q + i + 1 ≤ i' ∧ i' ≤ l.length ∧ kidsH (holdsF (testF K lB lL fa fd fq) l d) (m.f1.toNat - q) s' i' = some (s, j') ∧ w.grownBy wr (some a) ∧ wr.heap[a]? = some (.cells #[.int .i64 (i' : Int)] 3 (0, 0)) ∧ wr.heap[w.heap.size]? = some (.cells #[.int .i64 m.f0, .int .i64 m.f1, .string m.f2, .int .i64 m.f3, .int .i64 m.f4.f0, .int .i64 m.f4.f1] 45 (0, 0)))
      (fun _ v _ => m.f1.toNat - (intOf v).toNat)
     case atStart =>
      refine ⟨0, 0, i + 1, rfl, rfl, Nat.le_refl _, Nat.zero_le _, by omega, by omega, hk, hgr1, hT1.at_, ?_⟩
      exact (hafter _ (.int .i64 ((i : Int) + 1)) (.cells #[.int .i64 m.f0, .int .i64 m.f1, .string m.f2, .int .i64 m.f3, .int .i64 m.f4.f0, .int .i64 m.f4.f1] 45) (Below.refl _ _)).2.2
     case round =>
      obtain ⟨q, s', i', rfl, rfl, hsq, hq, hqi, hi', hk, hg, hA', hS'⟩ := hrel
      clear hcA hfA hcN hcA1 hfA1 hne1 hne2 x0 x1 x2 x3 x4 x5 hcT1
      have hq64 : (q : Int) < 64 := by omega
      by_cases c5 : (q : Int) < m.f1
      ·rw [show m.f1.toNat - q = (m.f1.toNat - (q + 1)) + 1 from by omega, kidsH] at hk
       obtain ⟨⟨b2, i2⟩, hk1, hk⟩ := Option.bind_eq_some_iff.mp hk
       have hlt2 := holdsF_lt (testF K lB lL fa fd fq) l d i' b2 i2 hk1
       have hT' := hTon wr i' hg hA'
       have hbr : Below w0.heap.size w0 wr := hb.grown hg hb.size (fun k hk => by cases hk; exact ha)
       have hcT' := cell_of_one hT'.tree
       cases b2 with
       | true =>
        have HK := Lib.hid (show kidsH (holdsF (testF K lB lL fa fd fq) l d) (m.f1.toNat - (q + 1)) (s' + 1) i2 = some (s, j') from hk)
        clear hk
        go_wp2_with (go_at_call 31; go_must (refine (ih i' _ _ wr hi' hk1 hbr hT').mono ?_; rintro e w2 ⟨rfl, hg2, hj2, hA2⟩))
        go_roundw
        case rel => exact ⟨q + 1, s' + 1, i2, by go_num, by go_num, by omega, by omega, by omega, hj2, HK.out, hg.trans hg2, hA2, (hg2.block w.heap.size (lt_of_block hS') (by simp; omega)).trans hS'⟩
        case measure => simp [intOf]; omega
       | false =>
        have HK := Lib.hid (show kidsH (holdsF (testF K lB lL fa fd fq) l d) (m.f1.toNat - (q + 1)) s' i2 = some (s, j') from hk)
        clear hk
        go_wp2_with (go_at_call 31; go_must (refine (ih i' _ _ wr hi' hk1 hbr hT').mono ?_; rintro e w2 ⟨rfl, hg2, hj2, hA2⟩))
        go_roundw
        case rel => exact ⟨q + 1, s', i2, by go_num, rfl, by omega, by omega, by omega, hj2, HK.out, hg.trans hg2, hA2, (hg2.block w.heap.size (lt_of_block hS') (by simp; omega)).trans hS'⟩
        case measure => simp [intOf]; omega
      ·rw [show m.f1.toNat - q = 0 from by omega, kidsH] at hk
       obtain ⟨rfl, rfl⟩ := Prod.mk.inj (Option.some.inj hk)
       have hc0 : wr.cell? ⟨w.heap.size, 0, none⟩ = some (.int .i64 m.f0) := (Joins.cell_of_block hS' 0).trans rfl
       have hc1 : wr.cell? ⟨w.heap.size, 1, none⟩ = some (.int .i64 m.f1) := (Joins.cell_of_block hS' 1).trans rfl
       by_cases g1 : (s' : Int) = m.f1
       ·have g1b : ((s' : Int) == m.f1) = true := beq_iff_eq.2 g1
        have hbt : true = b := by rw [← hfin, decide_eq_true g1, Bool.true_or]
        have HB := Lib.hid hbt
        clear hfin hbt g1
        go_wp2
        go_ret
        exact ⟨by rw [← HB.out]; first | rfl | simp, hg, by first | exact ⟨hi', hA'⟩ | exact hA'⟩
       ·have g1b : ((s' : Int) == m.f1) = false := beq_eq_false_iff_ne.2 g1
        have hbt : (true && decide (0 < (s' : Int))) = b := by rw [← hfin, decide_eq_false g1, Bool.false_or]
        have HB := Lib.hid hbt
        clear hfin hbt g1
        go_wp2
        go_ret
        exact ⟨by rw [← HB.out]; first | rfl | simp, hg, by first | exact ⟨hi', hA'⟩ | exact hA'⟩
    ·have e1 : (m.f0 == 1) = false := by rw [c2]; rfl
     have e1' : (1 == m.f0) = false := by rw [c2]; rfl
     have e2 : (m.f0 == 2) = true := by rw [c2]; rfl
     have e2' : (2 == m.f0) = true := by rw [c2]; rfl
     have hfin : (decide ((s : Int) = m.f1) || (false && decide (0 < (s : Int)))) = b := by
      have h2 : (decide ((s : Int) = m.f1) || (decide (m.f0 = 1) && decide (0 < (s : Int)))) = b := hv
      rw [c2] at h2; exact h2
     clear hv c2
     go_enter Tryz.func31, Tryz.ntmps31
     go_wp2
     go_loopw [6, 20] (fun vs v wr => ∃ (q s' i' : Nat), v = .int .i64 q ∧ vs = .int .i64 s' ∧ s' ≤ q ∧ q ≤ m.f1.toNat ∧ q + i + 1 ≤ i' ∧ i' ≤ l.length ∧ kidsH (holdsF (testF K lB lL fa fd fq) l d) (m.f1.toNat - q) s' i' = some (s, j') ∧ w.grownBy wr (some a) ∧ wr.heap[a]? = some (.cells #[.int .i64 (i' : Int)] 3 (0, 0)) ∧ wr.heap[w.heap.size]? = some (.cells #[.int .i64 m.f0, .int .i64 m.f1, .string m.f2, .int .i64 m.f3, .int .i64 m.f4.f0, .int .i64 m.f4.f1] 45 (0, 0)))
      (fun _ v _ => m.f1.toNat - (intOf v).toNat)
     case atStart =>
      refine ⟨0, 0, i + 1, rfl, rfl, Nat.le_refl _, Nat.zero_le _, by omega, by omega, hk, hgr1, hT1.at_, ?_⟩
      exact (hafter _ (.int .i64 ((i : Int) + 1)) (.cells #[.int .i64 m.f0, .int .i64 m.f1, .string m.f2, .int .i64 m.f3, .int .i64 m.f4.f0, .int .i64 m.f4.f1] 45) (Below.refl _ _)).2.2
     case round =>
      obtain ⟨q, s', i', rfl, rfl, hsq, hq, hqi, hi', hk, hg, hA', hS'⟩ := hrel
      clear hcA hfA hcN hcA1 hfA1 hne1 hne2 x0 x1 x2 x3 x4 x5 hcT1
      have hq64 : (q : Int) < 64 := by omega
      by_cases c5 : (q : Int) < m.f1
      ·rw [show m.f1.toNat - q = (m.f1.toNat - (q + 1)) + 1 from by omega, kidsH] at hk
       obtain ⟨⟨b2, i2⟩, hk1, hk⟩ := Option.bind_eq_some_iff.mp hk
       have hlt2 := holdsF_lt (testF K lB lL fa fd fq) l d i' b2 i2 hk1
       have hT' := hTon wr i' hg hA'
       have hbr : Below w0.heap.size w0 wr := hb.grown hg hb.size (fun k hk => by cases hk; exact ha)
       have hcT' := cell_of_one hT'.tree
       cases b2 with
       | true =>
        have HK := Lib.hid (show kidsH (holdsF (testF K lB lL fa fd fq) l d) (m.f1.toNat - (q + 1)) (s' + 1) i2 = some (s, j') from hk)
        clear hk
        go_wp2_with (go_at_call 31; go_must (refine (ih i' _ _ wr hi' hk1 hbr hT').mono ?_; rintro e w2 ⟨rfl, hg2, hj2, hA2⟩))
        go_roundw
        case rel => exact ⟨q + 1, s' + 1, i2, by go_num, by go_num, by omega, by omega, by omega, hj2, HK.out, hg.trans hg2, hA2, (hg2.block w.heap.size (lt_of_block hS') (by simp; omega)).trans hS'⟩
        case measure => simp [intOf]; omega
       | false =>
        have HK := Lib.hid (show kidsH (holdsF (testF K lB lL fa fd fq) l d) (m.f1.toNat - (q + 1)) s' i2 = some (s, j') from hk)
        clear hk
        go_wp2_with (go_at_call 31; go_must (refine (ih i' _ _ wr hi' hk1 hbr hT').mono ?_; rintro e w2 ⟨rfl, hg2, hj2, hA2⟩))
        go_roundw
        case rel => exact ⟨q + 1, s', i2, by go_num, rfl, by omega, by omega, by omega, hj2, HK.out, hg.trans hg2, hA2, (hg2.block w.heap.size (lt_of_block hS') (by simp; omega)).trans hS'⟩
        case measure => simp [intOf]; omega
      ·rw [show m.f1.toNat - q = 0 from by omega, kidsH] at hk
       obtain ⟨rfl, rfl⟩ := Prod.mk.inj (Option.some.inj hk)
       have hc0 : wr.cell? ⟨w.heap.size, 0, none⟩ = some (.int .i64 m.f0) := (Joins.cell_of_block hS' 0).trans rfl
       have hc1 : wr.cell? ⟨w.heap.size, 1, none⟩ = some (.int .i64 m.f1) := (Joins.cell_of_block hS' 1).trans rfl
       by_cases g1 : (s' : Int) = m.f1
       ·have g1b : ((s' : Int) == m.f1) = true := beq_iff_eq.2 g1
        have hbt : true = b := by rw [← hfin, decide_eq_true g1, Bool.true_or]
        have HB := Lib.hid hbt
        clear hfin hbt g1
        go_wp2
        go_ret
        exact ⟨by rw [← HB.out]; first | rfl | simp, hg, by first | exact ⟨hi', hA'⟩ | exact hA'⟩
       ·have g1b : ((s' : Int) == m.f1) = false := beq_eq_false_iff_ne.2 g1
        have hbt : (false && decide (0 < (s' : Int))) = b := by rw [← hfin, decide_eq_false g1, Bool.false_or]
        have HB := Lib.hid hbt
        clear hfin hbt g1
        go_wp2
        go_ret
        exact ⟨by rw [← HB.out]; first | rfl | simp, hg, by first | exact ⟨hi', hA'⟩ | exact hA'⟩
   ·rw [if_neg c2] at h
    have e1 : (m.f0 == 1) = false := beq_eq_false_iff_ne.2 (fun e => c2 (Or.inl e))
    have e1' : (1 == m.f0) = false := beq_eq_false_iff_ne.2 (fun e => c2 (Or.inl e.symm))
    have e2 : (m.f0 == 2) = false := beq_eq_false_iff_ne.2 (fun e => c2 (Or.inr e))
    have e2' : (2 == m.f0) = false := beq_eq_false_iff_ne.2 (fun e => c2 (Or.inr e.symm))
    clear c2
    by_cases c3 : m.f0 = 3
    ·rw [if_pos c3] at h
     obtain ⟨⟨b2, j'⟩, hk, h⟩ := Option.map_eq_some_iff.mp h
     obtain ⟨rfl, rfl⟩ := Prod.mk.inj h
     have e3 : (m.f0 == 3) = true := beq_iff_eq.2 c3
     have e3' : (3 == m.f0) = true := by rw [c3]; rfl
     clear c3
     go_enter Tryz.func31, Tryz.ntmps31
     go_wp2_with (go_at_call 31; go_must (refine (ih (i + 1) b2 j' _ (by omega) hk (hbelow _ _) hT1).mono ?_; rintro e w2 ⟨rfl, hg2, hj2, hA2⟩))
     go_ret
     exact ⟨rfl, hgr1.trans hg2, by first | exact ⟨hj2, hA2⟩ | exact hA2⟩
    ·rw [if_neg c3] at h
     have e3 : (m.f0 == 3) = false := beq_eq_false_iff_ne.2 c3
     have e3' : (3 == m.f0) = false := beq_eq_false_iff_ne.2 (fun e => c3 e.symm)
     clear c3
     obtain ⟨b2, ho, h⟩ := Option.map_eq_some_iff.mp h
     obtain ⟨rfl, rfl⟩ := Prod.mk.inj h
     have ho : traits_test.f K m.f0 m.f1 m.f2 m.f3 m.f4.f0 m.f4.f1 lB lL fa fd fq = some b2 := ho
     have f0 := (Joins.cell_of_block hT1.facts 0).trans rfl
     have f1 := (Joins.cell_of_block hT1.facts 1).trans rfl
     have f2 := (Joins.cell_of_block hT1.facts 2).trans rfl
     have f3 := (Joins.cell_of_block hT1.facts 3).trans rfl
     have f4 := (Joins.cell_of_block hT1.facts 4).trans rfl
     go_enter Tryz.func31, Tryz.ntmps31
     go_wp2_with (go_at_call 32; go_must (refine (traits_test.calls K m.f0 m.f1 m.f2 m.f3 m.f4.f0 m.f4.f1 AB cB lB AL cL lL fa fd fq b2 _ (Kd.C_below hCB (hbelow _ _)) hcB (Kd.C_below hCL (hbelow _ _)) hcL ho).mono ?_; rintro e w2 ⟨rfl, hb2⟩; obtain ⟨hg2, hA2, _⟩ := hafter _ _ _ hb2))
     go_ret
     exact ⟨rfl, hg2, by first | exact ⟨c1, by simpa using hA2⟩ | simpa using hA2⟩
  ·rw [if_neg c1] at h; cases h
theorem lt_of_block' {w : World} {k : Nat} {o : Obj} (h : w.heap[k]? = some o) : k < w.heap.size := (Array.getElem?_eq_some_iff.1 h).1
theorem below_on {w w1 w2 : World} (h : Below w.heap.size w w1) (hb : Below w1.heap.size w1 w2) : Below w.heap.size w w2 := h.trans (hb.mono h.size)
theorem keep_of {w1 w2 : World} {k : Nat} {o : Obj} (h : w1.heap[k]? = some o) (hb : Below w1.heap.size w1 w2) : w2.heap[k]? = some o := (hb.block k (lt_of_block h)).trans h
set_option maxRecDepth 100000 in
set_option maxHeartbeats 2000000 in
theorem traits_Holds.calls (k : Nat) (A0 : Option Addr) (c0 : Nat) (l0 : List S45) (AB : Option Addr) (cB : Nat) (lB : List ByteArray) (AL : Option Addr) (cL : Nat) (lL : List ByteArray) (fa fd fq : Int) (r1 : Bool) (r2 : Int) (w : World) (hr0 : Kd.C k45 w A0 l0.length l0) (hc0 : l0.length ≤ c0) (hCB : Kd.C Kd.string w AB lB.length lB) (hcB : lB.length ≤ cB) (hCL : Kd.C Kd.string w AL lL.length lL) (hcL : lL.length ≤ cL) (h : traits_Holds.f k l0 lB lL fa fd fq = some (r1, r2)) (hG : GT w) :
  Calls Tryz.prog 16 #[.slice A0 l0.length c0, .agg #[.slice AB lB.length cB, .slice AL lL.length cL, .int .i64 fa, .int .i64 fd, .int .i64 fq]] w fun e w' => e = .returned (.tuple #[.bool r1, .int .i64 r2]) ∧ Below w.heap.size w w' := by
 rw [traits_Holds.f] at h
 obtain ⟨e0, he0, h⟩ := Option.bind_eq_some_iff.mp h
 have hsz : ((w.alloc (.cells #[.slice A0 l0.length c0] 22)).alloc (.cells #[.slice AB lB.length cB, .slice AL lL.length cL, .int .i64 fa, .int .i64 fd, .int .i64 fq] 35)).heap.size = w.heap.size + 2 := by simp
 have hB2 : Below w.heap.size w ((w.alloc (.cells #[.slice A0 l0.length c0] 22)).alloc (.cells #[.slice AB lB.length cB, .slice AL lL.length cL, .int .i64 fa, .int .i64 fd, .int .i64 fq] 35)) := ((Below.refl _ _).alloc (Nat.le_refl _) _).alloc (by simp) _
 have hN0 : ((w.alloc (.cells #[.slice A0 l0.length c0] 22)).alloc (.cells #[.slice AB lB.length cB, .slice AL lL.length cL, .int .i64 fa, .int .i64 fd, .int .i64 fq] 35)).heap[w.heap.size]? = some (.cells #[.slice A0 l0.length c0] 22 (0, 0)) := (Below.heap_alloc _ _ _ (by simp)).trans (MapKept.heap_alloc w _).1
 have hF0 : ((w.alloc (.cells #[.slice A0 l0.length c0] 22)).alloc (.cells #[.slice AB lB.length cB, .slice AL lL.length cL, .int .i64 fa, .int .i64 fd, .int .i64 fq] 35)).heap[w.heap.size + 1]? = some (.cells #[.slice AB lB.length cB, .slice AL lL.length cL, .int .i64 fa, .int .i64 fd, .int .i64 fq] 35 (0, 0)) := by
  have := (MapKept.heap_alloc (w.alloc (.cells #[.slice A0 l0.length c0] 22)) (.cells #[.slice AB lB.length cB, .slice AL lL.length cL, .int .i64 fa, .int .i64 fd, .int .i64 fq] 35)).1
  rwa [show (w.alloc (.cells #[.slice A0 l0.length c0] 22)).heap.size = w.heap.size + 1 from by simp] at this
 have HN0 := Lib.hid hN0
 have HF0 := Lib.hid hF0
 clear hN0 hF0
 have hCk := traits_Check.calls k A0 c0 l0 e0 _ (Kd.C_below hr0 hB2) hc0 he0 (hG.at hB2)
 have hon : ∀ w1, Below ((w.alloc (.cells #[.slice A0 l0.length c0] 22)).alloc (.cells #[.slice AB lB.length cB, .slice AL lL.length cL, .int .i64 fa, .int .i64 fd, .int .i64 fq] 35)).heap.size ((w.alloc (.cells #[.slice A0 l0.length c0] 22)).alloc (.cells #[.slice AB lB.length cB, .slice AL lL.length cL, .int .i64 fa, .int .i64 fd, .int .i64 fq] 35)) w1 → Below w.heap.size w w1 := fun w1 hb => hB2.trans (hb.mono (by omega))
 have hfc : ∀ w1 : World, w1.heap[w.heap.size + 1]? = some (.cells #[.slice AB lB.length cB, .slice AL lL.length cL, .int .i64 fa, .int .i64 fd, .int .i64 fq] 35 (0, 0)) → w1.cell? ⟨w.heap.size + 1, 0, none⟩ = some (.slice AB lB.length cB) ∧ w1.cell? ⟨w.heap.size + 1, 1, none⟩ = some (.slice AL lL.length cL) ∧ w1.cell? ⟨w.heap.size + 1, 2, none⟩ = some (.int .i64 fa) ∧ w1.cell? ⟨w.heap.size + 1, 3, none⟩ = some (.int .i64 fd) ∧ w1.cell? ⟨w.heap.size + 1, 4, none⟩ = some (.int .i64 fq) := fun w1 hF =>
  ⟨(Joins.cell_of_block hF 0).trans rfl, (Joins.cell_of_block hF 1).trans rfl, (Joins.cell_of_block hF 2).trans rfl, (Joins.cell_of_block hF 3).trans rfl, (Joins.cell_of_block hF 4).trans rfl⟩
 by_cases c1 : e0 = 0
 ·rw [if_pos c1] at h
  subst c1
  obtain ⟨g0, hg0, h⟩ := Option.bind_eq_some_iff.mp h
  have hFt := fun (w1 : World) (hB : Below w.heap.size w w1) => traits_Fit.calls k AB cB lB AL cL lL fa fd fq g0 w1 (Kd.C_below hCB hB) hcB (Kd.C_below hCL hB) hcL hg0 (hG.at hB)
  by_cases c2 : g0 = 0
  ·rw [if_pos c2] at h
   subst c2
   by_cases c3 : l0.length = 0
   ·rw [if_pos c3] at h
    obtain ⟨rfl, rfl⟩ := Prod.mk.inj (Option.some.inj h)
    have c3z : ((l0.length : Int) == 0) = true := beq_iff_eq.2 (by omega)
    clear c3 he0 hg0 hr0 hsz hB2 h
    go_enter Tryz.func16, Tryz.ntmps16
    go_wp2_with (first | (go_at_call 14; go_must (refine hCk.mono ?_; rintro e w1 ⟨rfl, hb1⟩; have hB1 := hon _ hb1; have hF1 : w1.heap[w.heap.size + 1]? = some (.cells #[.slice AB lB.length cB, .slice AL lL.length cL, .int .i64 fa, .int .i64 fd, .int .i64 fq] 35 (0, 0)) := keep_of HF0.out hb1; have hN1 := keep_of HN0.out hb1; obtain ⟨f0, f1, f2, f3, f4⟩ := hfc w1 hF1; have hcN := cell_of_one hN1)) | (go_at_call 30; go_must (refine (hFt _ hB1).mono ?_; rintro e w2 ⟨rfl, hb2⟩; have hN2 := keep_of hN1 hb2; have hF2 := keep_of hF1 hb2; have hB2 := below_on hB1 hb2; have hcN2 := cell_of_one hN2)))
    go_ret2
    exact ⟨rfl, below_on hB1 hb2⟩
   ·rw [if_neg c3] at h
    have hl : l0.length ≤ 64 := by
     rw [traits_Check.f, if_neg c3] at he0
     by_cases c4 : 64 < l0.length
     ·rw [if_pos c4] at he0; cases he0
     ·omega
    obtain ⟨⟨b, j⟩, ht, h⟩ := Option.map_eq_some_iff.mp h
    obtain ⟨rfl, rfl⟩ := Prod.mk.inj h
    have c3z : ((l0.length : Int) == 0) = false := beq_eq_false_iff_ne.2 (by omega)
    have hmf : ∀ (fn : Fn) (first cap : Array Value) (w : World), (Instr.makeFunc fn first cap).run Tryz.prog w = .ok (.func fn first cap) w := fun _ _ _ _ => rfl
    have hsf := fun (a : Addr) (c : Array Value) (w : World) => run_store Tryz.prog w a (.func (.func 31) #[] c) .plain rfl
    have hcall : ∀ w2, Below w.heap.size w w2 → w2.heap[w.heap.size]? = some (.cells #[.slice A0 l0.length c0] 22 (0, 0)) → w2.heap[w.heap.size + 1]? = some (.cells #[.slice AB lB.length cB, .slice AL lL.length cL, .int .i64 fa, .int .i64 fd, .int .i64 fq] 35 (0, 0)) →
      Calls Tryz.prog 31 #[.pointer (some ⟨w.heap.size, 0, none⟩), .pointer (some ⟨w2.heap.size, 0, none⟩), .pointer (some ⟨w2.heap.size + 1, 0, none⟩), .pointer (some ⟨w.heap.size + 1, 0, none⟩)] ((w2.alloc (.cells #[.int .i64 0] 3)).alloc (.cells #[.func (.func 31) #[] #[.pointer (some ⟨w.heap.size, 0, none⟩), .pointer (some ⟨w2.heap.size, 0, none⟩), .pointer (some ⟨w2.heap.size + 1, 0, none⟩), .pointer (some ⟨w.heap.size + 1, 0, none⟩)]] 32)) fun e w3 => e = .returned (.bool b) ∧ Below w.heap.size w w3 := fun w2 hB hN hF => by
     have hlt := lt_of_block hF
     have hB3 : Below w.heap.size w ((w2.alloc (.cells #[.int .i64 0] 3)).alloc (.cells #[.func (.func 31) #[] #[.pointer (some ⟨w.heap.size, 0, none⟩), .pointer (some ⟨w2.heap.size, 0, none⟩), .pointer (some ⟨w2.heap.size + 1, 0, none⟩), .pointer (some ⟨w.heap.size + 1, 0, none⟩)]] 32)) :=
      (hB.alloc (by omega) _).alloc (by simp; omega) _
     have hsa : (w2.alloc (.cells #[.int .i64 0] 3)).heap.size = w2.heap.size + 1 := by simp
     have hup : ∀ (o : Obj) (k : Nat) (x : Obj), w2.heap[k]? = some x → ((w2.alloc (.cells #[.int .i64 0] 3)).alloc o).heap[k]? = some x := fun o k x hx => by
      have := lt_of_block' hx
      exact (Below.heap_alloc _ _ _ (by omega)).trans ((Below.heap_alloc _ _ _ this).trans hx)
     refine (holds_calls k w l0 A0 c0 hr0 hl lB lL AB AL cB cL hCB hcB hCL hcL fa fd fq w.heap.size w2.heap.size (w2.heap.size + 1) (w.heap.size + 1) (by omega) 20 0 b j _ (Nat.zero_le _) ht hB3 ⟨?_, hup _ _ _ hN, hup _ _ _ hF, ?_⟩).mono ?_
     ·exact (Below.heap_alloc _ _ _ (by omega)).trans (MapKept.heap_alloc w2 _).1
     ·have := (MapKept.heap_alloc (w2.alloc (.cells #[.int .i64 0] 3)) (.cells #[.func (.func 31) #[] #[.pointer (some ⟨w.heap.size, 0, none⟩), .pointer (some ⟨w2.heap.size, 0, none⟩), .pointer (some ⟨w2.heap.size + 1, 0, none⟩), .pointer (some ⟨w.heap.size + 1, 0, none⟩)]] 32)).1
      rwa [hsa] at this
     ·rintro e w3 ⟨rfl, hg, _, _⟩
      exact ⟨rfl, hB3.grown hg hB3.size (fun k hk => by cases hk; omega)⟩
    clear c3 he0 hg0 hr0 hsz hB2 h ht hl
    go_enter Tryz.func16, Tryz.ntmps16
    go_wp2_with (first | (go_at_call 14; go_must (refine hCk.mono ?_; rintro e w1 ⟨rfl, hb1⟩; have hB1 := hon _ hb1; have hF1 : w1.heap[w.heap.size + 1]? = some (.cells #[.slice AB lB.length cB, .slice AL lL.length cL, .int .i64 fa, .int .i64 fd, .int .i64 fq] 35 (0, 0)) := keep_of HF0.out hb1; have hN1 := keep_of HN0.out hb1; obtain ⟨f0, f1, f2, f3, f4⟩ := hfc w1 hF1; have hcN := cell_of_one hN1)) | (go_at_call 30; go_must (refine (hFt _ hB1).mono ?_; rintro e w2 ⟨rfl, hb2⟩; have hN2 := keep_of hN1 hb2; have hF2 := keep_of hF1 hb2; have hB2 := below_on hB1 hb2; have hcN2 := cell_of_one hN2)) | (go_at_call 31; go_must (refine (hcall _ hB2 hN2 hF2).mono ?_; rintro e w3 ⟨rfl, hB3⟩)))
    go_ret2
    exact ⟨rfl, hB3⟩
  ·rw [if_neg c2] at h
   obtain ⟨rfl, rfl⟩ := Prod.mk.inj (Option.some.inj h)
   have c1z : (g0 == 0) = false := beq_eq_false_iff_ne.2 c2
   have c1y : (g0 != 0) = true := bne_iff_ne.2 c2
   clear c2 he0 hg0 hr0 hsz hB2 h
   go_enter Tryz.func16, Tryz.ntmps16
   go_wp2_with (first | (go_at_call 14; go_must (refine hCk.mono ?_; rintro e w1 ⟨rfl, hb1⟩; have hB1 := hon _ hb1; have hF1 : w1.heap[w.heap.size + 1]? = some (.cells #[.slice AB lB.length cB, .slice AL lL.length cL, .int .i64 fa, .int .i64 fd, .int .i64 fq] 35 (0, 0)) := keep_of HF0.out hb1; have hN1 := keep_of HN0.out hb1; obtain ⟨f0, f1, f2, f3, f4⟩ := hfc w1 hF1; have hcN := cell_of_one hN1)) | (go_at_call 30; go_must (refine (hFt _ hB1).mono ?_; rintro e w2 ⟨rfl, hb2⟩; have hN2 := keep_of hN1 hb2; have hF2 := keep_of hF1 hb2; have hB2 := below_on hB1 hb2; have hcN2 := cell_of_one hN2)))
   go_ret2
   exact ⟨rfl, below_on hB1 hb2⟩
 ·rw [if_neg c1] at h
  obtain ⟨rfl, rfl⟩ := Prod.mk.inj (Option.some.inj h)
  have c1z : (e0 == 0) = false := beq_eq_false_iff_ne.2 c1
  have c1y : (e0 != 0) = true := bne_iff_ne.2 c1
  clear c1 he0 hsz hr0
  go_enter Tryz.func16, Tryz.ntmps16
  go_wp2_with (go_at_call 14; go_must (refine hCk.mono ?_; rintro e w1 ⟨rfl, hb1⟩))
  go_ret2
  exact ⟨rfl, hon _ hb1⟩
def strings_Split.f (a0 a1 : ByteArray) : Option (List ByteArray) := if a0.size < 4294967281 ∧ 1 ≤ a1.size then some (Lib.splitB a1 0 (Lib.countB a0 a1) a0) else none
theorem R_strings (w : World) (L : List ByteArray) (hL : L.length ≤ 9223372036854775807) : Kd.R Kd.string 9 (w.alloc (.cells (L.map Value.string).toArray 9)) w.heap.size (fun _ => True) (.slice (some ⟨w.heap.size, 0, none⟩) L.length L.length) L := by
 refine Kd.R_of_own ⟨by simp [encs], Or.inr ⟨w.heap.size, L.length, (L.map Value.string).toArray, rfl, Nat.le_refl _, (MapKept.heap_alloc w _).1, Nat.le_refl _, by unfold maxLen; omega, by simp, ?_⟩⟩ (fun _ _ => trivial)
 simp [encs, List.take_of_length_le]
theorem strings_Split.calls (a0 a1 : ByteArray) (r : List ByteArray) (w : World) (h : strings_Split.f a0 a1 = some r) (hG : GT w) :
  Calls Tryz.prog 58 #[.string a0, .string a1] w fun e w' => ∃ v0_ : Value, e = .returned v0_ ∧ Kd.R Kd.string 9 w' w.heap.size (fun _ => True) v0_ r ∧ Below w.heap.size w w' := by
 unfold strings_Split.f at h
 split at h
 ·rename_i hc
  obtain rfl := Option.some.inj h
  obtain ⟨m, hm⟩ := hG.max
  refine (Tryz.strings_Split a0 a1 m w hc.1 hm hc.2).mono ?_
  rintro e w' ⟨rfl, rfl⟩
  have hl := Lib.splitB_all a1 hc.2 0 _ a0 rfl
  refine ⟨_, rfl, ?_, (Below.refl _ _).alloc (Nat.le_refl _) _⟩
  have := R_strings w (Lib.splitB a1 0 (Lib.countB a0 a1) a0) (by have := Lib.countB_le a1 hc.2 _ a0 (Nat.le_refl _); omega)
  rw [hl] at this
  exact this
 ·cases h
def traits_Class.l0 : Nat → List ByteArray → List ByteArray → Int → Int → Option (List ByteArray × Int)
 | 0, _, _, _, _ => none
 | k + 1, x4, x12, x13, x14 => if x14 < x13 then (if 0 ≤ x14 then (if x14 < (x12.length : Int) then ((tokens_Word.f (rdOf ByteArray.empty x12 x14)).bind fun t360 => (if t360 = true then (traits_Class.l0 k x4 x12 x13 (wrap64 (x14 + 1))) else (some (([] : List ByteArray), 140)))) else (none)) else (none)) else (some (x4, 0))
def traits_Class.f (k : Nat) (a0 : ByteArray) : Option (List ByteArray × Int) := (strings_Split.f a0 (⟨#[46]⟩ : ByteArray)).bind fun t356 => (if (t356.length : Int) > 8 then (some (([] : List ByteArray), 140)) else (traits_Class.l0 k t356 t356 (t356.length : Int) 0))
theorem traits_Class.mono_l : ∀ k, (∀ y0 y1 y2 y3, LeO (traits_Class.l0 k y0 y1 y2 y3) (traits_Class.l0 (k + 1) y0 y1 y2 y3))
 | 0 => fun _ _ _ _ r h => by simp [traits_Class.l0] at h
 | k + 1 => by
  have ih0 := traits_Class.mono_l k
  ·intro y0 y1 y2 y3
   unfold traits_Class.l0
   repeat' first
   | (with_reducible exact ih0 _ _ _ _)
   | (with_reducible exact LeO.refl _)
   | (with_reducible exact LeO.none _)
   | (with_reducible refine LeO.ite ?_ ?_)
   | (with_reducible refine LeO.bind ?_ (fun _ => ?_))
   | exact ih0 _ _ _ _
   | exact LeO.none _
   | refine LeO.ite ?_ ?_
   | refine LeO.bind ?_ (fun _ => ?_)
theorem traits_Class.mono : ∀ a0 k, LeO (traits_Class.f k a0) (traits_Class.f (k + 1) a0) := by
 intro a0 k
 have ih0 := traits_Class.mono_l k
 unfold traits_Class.f
 repeat' first
   | (with_reducible exact ih0 _ _ _ _)
   | (with_reducible exact LeO.refl _)
   | (with_reducible exact LeO.none _)
   | (with_reducible refine LeO.ite ?_ ?_)
   | (with_reducible refine LeO.bind ?_ (fun _ => ?_))
   | exact ih0 _ _ _ _
   | exact LeO.none _
   | refine LeO.ite ?_ ?_
   | refine LeO.bind ?_ (fun _ => ?_)
set_option maxHeartbeats 8000000 in
set_option maxRecDepth 100000 in
theorem traits_Class.calls (k : Nat) (a0 : ByteArray) (r1 : List ByteArray) (r2 : Int) (w : World) (h : traits_Class.f k a0 = some (r1, r2)) (hG : GT w) :
  Calls Tryz.prog 39 #[.string a0] w fun e w' => ∃ v0_ : Value, e = .returned (.tuple #[v0_, .int .i64 r2]) ∧ Kd.R Kd.string 9 w' w.heap.size (fun _ => True) v0_ r1 ∧ Below w.heap.size w w' := by
 have HB := Aside0.mk (Below.refl w.heap.size w)
 have H : ((strings_Split.f a0 (⟨#[46]⟩ : ByteArray)).bind fun t356 => (if (t356.length : Int) > 8 then (some (([] : List ByteArray), 140)) else (traits_Class.l0 k t356 t356 (t356.length : Int) 0))) = some (r1, r2) := h
 clear h
 replace H := Option.bind_eq_some_iff.mp H
 obtain ⟨t356, A20, H⟩ := H
 replace H : (if (t356.length : Int) > 8 then (some (([] : List ByteArray), 140)) else (traits_Class.l0 k t356 t356 (t356.length : Int) 0)) = some (r1, r2) := H
 have A2 := Aside0.mk A20
 clear A20
 by_cases c3 : (t356.length : Int) > 8
 ·rw [if_pos c3] at H
  have c3b0 : decide (8 < (t356.length : Int)) = true := decide_eq_true c3
  have c3b1 : decide (8 < t356.length) = true := decide_eq_true (by omega)
  clear c3
  simp only [Option.some.injEq, Prod.mk.injEq] at H
  obtain ⟨rfl, rfl⟩ := H
  go_enter Tryz.func39, Tryz.ntmps39
  go_wp2_with (first | ((with_reducible refine gate_callee (f := 58) rfl ?_); refine goesL_ (some 8) rfl rfl Tryz.func58 (by kernel_rfl) rfl #[.string a0, .string (⟨#[46]⟩ : ByteArray)] rfl (by (try simp only [List.map_toArray, List.map_cons, List.map_nil]); first | done | rfl | (simp only [List.length_drop, List.length_take]; rfl)) ?_; (with_reducible refine (strings_Split.calls a0 (⟨#[46]⟩ : ByteArray) t356 _ A2.out (hG.at (hb0_ HB.out))).mono ?_); rintro e w4 ⟨v357, rfl, ho0, hb⟩; refine ⟨_, rfl, ?_⟩; have n0_ := Aside0.mk (Kd.R_lower ho0 (below_size (hb0_ HB.out))); have n1_ := Aside0.mk (below_step (hb0_ HB.out) hb); clear HB; have HO358 := n0_; have HB := n1_; clear n0_ n1_; (try clear hb); (try clear hb2); (try clear hk); (try clear hi); (try clear ho0); obtain ⟨Ao5, co5, eo5⟩ := Kd.R_slice HO358.out; subst eo5))
  go_ret2
  exact ⟨_, rf_, rn_, (hb0_ HB.out)⟩
 ·rw [if_neg c3] at H
  have c3b0 : decide (8 < (t356.length : Int)) = false := decide_eq_false c3
  have c3b1 : decide (8 < t356.length) = false := decide_eq_false (by omega)
  clear c3
  have H' := Aside0.mk H
  clear H
  go_enter Tryz.func39, Tryz.ntmps39
  go_wp2_with (first | ((with_reducible refine gate_callee (f := 58) rfl ?_); refine goesL_ (some 8) rfl rfl Tryz.func58 (by kernel_rfl) rfl #[.string a0, .string (⟨#[46]⟩ : ByteArray)] rfl (by (try simp only [List.map_toArray, List.map_cons, List.map_nil]); first | done | rfl | (simp only [List.length_drop, List.length_take]; rfl)) ?_; (with_reducible refine (strings_Split.calls a0 (⟨#[46]⟩ : ByteArray) t356 _ A2.out (hG.at (hb0_ HB.out))).mono ?_); rintro e w6 ⟨v357, rfl, ho0, hb⟩; refine ⟨_, rfl, ?_⟩; have n0_ := Aside0.mk (Kd.R_lower ho0 (below_size (hb0_ HB.out))); have n1_ := Aside0.mk (below_step (hb0_ HB.out) hb); clear HB; have HO358 := n0_; have HB := n1_; clear n0_ n1_; (try clear hb); (try clear hb2); (try clear hk); (try clear hi); (try clear ho0); obtain ⟨Ao7, co7, eo7⟩ := Kd.R_slice HO358.out; subst eo7))
  go_loopg [14] k (fun kq v14 w' => ∃ (x14_1 : Int), v14 = .int .i64 x14_1 ∧ Aside0 (traits_Class.l0 kq t356 t356 (t356.length : Int) x14_1 = some (r1, r2)) ∧ Aside0 (kq ≤ k) ∧ Aside0 (Kd.R Kd.string 9 w' w.heap.size (fun _ => True) (.slice Ao7 t356.length co7) t356) ∧ Aside0 (Kd.R Kd.string 9 w' w.heap.size (fun _ => True) (.slice Ao7 t356.length co7) t356) ∧ Aside0 (Below w.heap.size w w'))
  case atStart => exact ⟨(0), (by first | rfl | (simp; done) | (simp [*]; done)), H', ⟨Nat.le_refl _⟩, ⟨by (with_reducible repeat (first | apply Kd.R_alloc | apply Kd.R_drewN | apply Kd.R_drew)); exact HO358.out⟩, ⟨by (with_reducible repeat (first | apply Kd.R_alloc | apply Kd.R_drewN | apply Kd.R_drew)); exact HO358.out⟩, ⟨(hb0_ HB.out)⟩⟩
  case round =>
   clear H'
   try clear p2
   try clear c3
   try clear c3b0
   try clear c3b1
   try clear c5
   obtain ⟨x14_1, rfl, HA, HK1, HO_4, HO_12, HB⟩ := hrel
   cases gk with
   | zero => exact absurd HA.out (by simp [traits_Class.l0])
   | succ k1 =>
    have H := HA.out
    clear HA
    simp only [traits_Class.l0] at H
    by_cases c8 : x14_1 < (t356.length : Int)
    ·rw [if_pos c8] at H
     have c8b0 : decide (x14_1 < (t356.length : Int)) = true := decide_eq_true c8
     clear c8
     by_cases c9 : 0 ≤ x14_1
     ·rw [if_pos c9] at H
      have c9b0 : decide (0 ≤ x14_1) = true := decide_eq_true c9
      clear c9
      by_cases c10 : x14_1 < (t356.length : Int)
      ·rw [if_pos c10] at H
       have c10b0 : decide (x14_1 < (t356.length : Int)) = true := decide_eq_true c10
       clear c10
       replace H := Option.bind_eq_some_iff.mp H
       obtain ⟨t360, A110, H⟩ := H
       replace H : (if t360 = true then (traits_Class.l0 k1 t356 t356 (t356.length : Int) (wrap64 (x14_1 + 1))) else (some (([] : List ByteArray), 140))) = some (r1, r2) := H
       have A11 := Aside0.mk A110
       clear A110
       by_cases c12 : t360 = true
       ·subst c12
        have H1 : (traits_Class.l0 k1 t356 t356 (t356.length : Int) (wrap64 (x14_1 + 1))) = some (r1, r2) := by rw [if_pos rfl] at H; exact H
        clear H
        have H := H1
        clear H1
        have H' := Aside0.mk H
        clear H
        have p359 : 0 ≤ (x14_1 : Int) := od_
        have q359 : x14_1 < (t356.length : Int) := od_
        obtain ⟨ad359, e359, hx359_0⟩ := Kd.at_string (Kd.R_reads' HO_12.out).2.2 x14_1 p359 q359
        cases e359
        replace p359 := eq_true p359
        replace q359 := eq_true q359
        go_wp2_with (first | ((with_reducible refine gate_callee (f := 41) rfl ?_); refine goesL_ (some 19) rfl rfl Tryz.func41 (by kernel_rfl) rfl #[.string (rdOf ByteArray.empty t356 x14_1)] rfl (by (try simp only [List.map_toArray, List.map_cons, List.map_nil]); first | done | rfl | (simp only [List.length_drop, List.length_take]; rfl)) ?_; (with_reducible refine (tokens_Word.calls (rdOf ByteArray.empty t356 x14_1) true _ A11.out (hG.at (hb0_ HB.out))).mono ?_); rintro e w13 ⟨rfl, hb⟩; refine ⟨_, rfl, ?_⟩; have n0_ := Aside0.mk (Kd.R_below (by (with_reducible repeat (first | apply Kd.R_alloc | apply Kd.R_drewN | apply Kd.R_drew)); exact HO_4.out) hb); have n1_ := Aside0.mk (Kd.R_below (by (with_reducible repeat (first | apply Kd.R_alloc | apply Kd.R_drewN | apply Kd.R_drew)); exact HO_12.out) hb); have n2_ := Aside0.mk (below_step (hb0_ HB.out) hb); clear HO_4; clear HO_12; clear HB; have HO_4 := n0_; have HO_12 := n1_; have HB := n2_; clear n0_ n1_ n2_; (try clear hb); (try clear hb2); (try clear hk); (try clear hi)))
        go_roundg k1
        case measure => have := HK1.out; omega
        case rel => exact ⟨(wrap64 (x14_1 + 1)), (by first | rfl | (simp; done) | (simp [*]; done)), H', ⟨by have := HK1.out; omega⟩, ⟨by (with_reducible repeat (first | apply Kd.R_alloc | apply Kd.R_drewN | apply Kd.R_drew)); exact HO_4.out⟩, ⟨by (with_reducible repeat (first | apply Kd.R_alloc | apply Kd.R_drewN | apply Kd.R_drew)); exact HO_12.out⟩, ⟨(hb0_ HB.out)⟩⟩
       ·replace c12 := Bool.eq_false_iff.mpr c12
        subst c12
        have H1 : (some (([] : List ByteArray), 140)) = some (r1, r2) := by rw [if_neg (show ¬ (false = true) by decide)] at H; exact H
        clear H
        have H := H1
        clear H1
        simp only [Option.some.injEq, Prod.mk.injEq] at H
        obtain ⟨rfl, rfl⟩ := H
        have p359 : 0 ≤ (x14_1 : Int) := od_
        have q359 : x14_1 < (t356.length : Int) := od_
        obtain ⟨ad359, e359, hx359_0⟩ := Kd.at_string (Kd.R_reads' HO_12.out).2.2 x14_1 p359 q359
        cases e359
        replace p359 := eq_true p359
        replace q359 := eq_true q359
        go_wp2_with (first | ((with_reducible refine gate_callee (f := 41) rfl ?_); refine goesL_ (some 19) rfl rfl Tryz.func41 (by kernel_rfl) rfl #[.string (rdOf ByteArray.empty t356 x14_1)] rfl (by (try simp only [List.map_toArray, List.map_cons, List.map_nil]); first | done | rfl | (simp only [List.length_drop, List.length_take]; rfl)) ?_; (with_reducible refine (tokens_Word.calls (rdOf ByteArray.empty t356 x14_1) false _ A11.out (hG.at (hb0_ HB.out))).mono ?_); rintro e w14 ⟨rfl, hb⟩; refine ⟨_, rfl, ?_⟩; have n0_ := Aside0.mk (Kd.R_below (by (with_reducible repeat (first | apply Kd.R_alloc | apply Kd.R_drewN | apply Kd.R_drew)); exact HO_4.out) hb); have n1_ := Aside0.mk (Kd.R_below (by (with_reducible repeat (first | apply Kd.R_alloc | apply Kd.R_drewN | apply Kd.R_drew)); exact HO_12.out) hb); have n2_ := Aside0.mk (below_step (hb0_ HB.out) hb); clear HO_4; clear HO_12; clear HB; have HO_4 := n0_; have HO_12 := n1_; have HB := n2_; clear n0_ n1_ n2_; (try clear hb); (try clear hb2); (try clear hk); (try clear hi)))
        go_ret2
        exact ⟨_, rf_, rn_, (hb0_ HB.out)⟩
      ·rw [if_neg c10] at H
       exact absurd H (by simp)
     ·rw [if_neg c9] at H
      exact absurd H (by simp)
    ·rw [if_neg c8] at H
     have c8b0 : decide (x14_1 < (t356.length : Int)) = false := decide_eq_false c8
     clear c8
     simp only [Option.some.injEq, Prod.mk.injEq] at H
     obtain ⟨rfl, rfl⟩ := H
     go_wp2
     go_ret2
     exact ⟨_, rf_, by (with_reducible repeat (first | apply Kd.R_alloc | apply Kd.R_drewN | apply Kd.R_drew)); exact HO_4.out, (hb0_ HB.out)⟩
def slices_Equal_string_string.l0 : Nat → List ByteArray → List ByteArray → Int → Int → Option (Bool)
 | 0, _, _, _, _ => none
 | k + 1, x0, x1, x12, x13 => if x13 < x12 then (if 0 ≤ x13 then (if x13 < (x0.length : Int) then (if x13 < (x1.length : Int) then (if (rdOf ByteArray.empty x0 x13).toList = (rdOf ByteArray.empty x1 x13).toList then (slices_Equal_string_string.l0 k x0 x1 x12 (wrap64 (x13 + 1))) else (some false)) else (none)) else (none)) else (none)) else (some true)
def slices_Equal_string_string.f (k : Nat) (l0 : List ByteArray) (l1 : List ByteArray) : Option (Bool) := if (l0.length : Int) = (l1.length : Int) then (slices_Equal_string_string.l0 k l0 l1 (l0.length : Int) 0) else (some false)
theorem slices_Equal_string_string.mono_l : ∀ k, (∀ y0 y1 y2 y3, LeO (slices_Equal_string_string.l0 k y0 y1 y2 y3) (slices_Equal_string_string.l0 (k + 1) y0 y1 y2 y3))
 | 0 => fun _ _ _ _ r h => by simp [slices_Equal_string_string.l0] at h
 | k + 1 => by
  have ih0 := slices_Equal_string_string.mono_l k
  ·intro y0 y1 y2 y3
   unfold slices_Equal_string_string.l0
   repeat' first
   | (with_reducible exact ih0 _ _ _ _)
   | (with_reducible exact LeO.refl _)
   | (with_reducible exact LeO.none _)
   | (with_reducible refine LeO.ite ?_ ?_)
   | (with_reducible refine LeO.bind ?_ (fun _ => ?_))
   | exact ih0 _ _ _ _
   | exact LeO.none _
   | refine LeO.ite ?_ ?_
   | refine LeO.bind ?_ (fun _ => ?_)
theorem slices_Equal_string_string.mono : ∀ a0 a1 k, LeO (slices_Equal_string_string.f k a0 a1) (slices_Equal_string_string.f (k + 1) a0 a1) := by
 intro a0 a1 k
 have ih0 := slices_Equal_string_string.mono_l k
 unfold slices_Equal_string_string.f
 repeat' first
   | (with_reducible exact ih0 _ _ _ _)
   | (with_reducible exact LeO.refl _)
   | (with_reducible exact LeO.none _)
   | (with_reducible refine LeO.ite ?_ ?_)
   | (with_reducible refine LeO.bind ?_ (fun _ => ?_))
   | exact ih0 _ _ _ _
   | exact LeO.none _
   | refine LeO.ite ?_ ?_
   | refine LeO.bind ?_ (fun _ => ?_)
set_option maxHeartbeats 8000000 in
set_option maxRecDepth 100000 in
theorem slices_Equal_string_string.calls (k : Nat) (A0 : Option Addr) (c0 : Nat) (l0 : List ByteArray) (A1 : Option Addr) (c1 : Nat) (l1 : List ByteArray) (r : Bool) (w : World) (hr0 : Kd.C Kd.string w A0 l0.length l0) (hc0 : l0.length ≤ c0) (hr1 : Kd.C Kd.string w A1 l1.length l1) (hc1 : l1.length ≤ c1) (h : slices_Equal_string_string.f k l0 l1 = some r) :
  Calls Tryz.prog 40 #[.slice A0 l0.length c0, .slice A1 l1.length c1] w fun e w' => e = .returned (.bool r) ∧ Drawn0 w w' := by
 have HR0 := Aside0.mk hr0
 have HC0 := Aside0.mk hc0
 clear hr0 hc0
 have HR1 := Aside0.mk hr1
 have HC1 := Aside0.mk hc1
 clear hr1 hc1
 have H : (if (l0.length : Int) = (l1.length : Int) then (slices_Equal_string_string.l0 k l0 l1 (l0.length : Int) 0) else (some false)) = some r := h
 clear h
 by_cases c3 : (l0.length : Int) = (l1.length : Int)
 ·rw [if_pos c3] at H
  have c3b0 : ((l0.length : Int) == (l1.length : Int)) = true := beq_iff_eq.mpr c3
  have c3b1 : ((l0.length : Int) != (l1.length : Int)) = false := bne_eq_false_iff_eq.mpr c3
  have c3b2 : (l0.length == l1.length) = true := by first | simpa using c3 | (simp at c3 ⊢; omega)
  clear c3
  have H' := Aside0.mk H
  clear H
  go_enter Tryz.func40, Tryz.ntmps40
  go_wp2
  repeat (go_quiet (fail); try go_wp2)
  go_loopg [13] k (fun kq v13 w' => ∃ (x13_1 : Int), v13 = .int .i64 x13_1 ∧ Aside0 (slices_Equal_string_string.l0 kq l0 l1 (l0.length : Int) x13_1 = some r) ∧ Aside0 (kq ≤ k) ∧ Drawn0 w w')
  case atStart => exact ⟨(0), (by first | rfl | (simp; done) | (simp [*]; done)), H', ⟨Nat.le_refl _⟩, by repeat (first | exact Drawn0.refl _ | apply Drawn0.step)⟩
  case round =>
   clear H'
   try clear c1
   try clear p2
   try clear c3
   try clear c3b0
   try clear c3b1
   try clear c3b2
   obtain ⟨x13_1, rfl, HA, HK1, ⟨m1, rfl⟩⟩ := hrel
   cases gk with
   | zero => exact absurd HA.out (by simp [slices_Equal_string_string.l0])
   | succ k1 =>
    have H := HA.out
    clear HA
    simp only [slices_Equal_string_string.l0] at H
    by_cases c4 : x13_1 < (l0.length : Int)
    ·rw [if_pos c4] at H
     have c4b0 : decide (x13_1 < (l0.length : Int)) = true := decide_eq_true c4
     clear c4
     by_cases c5 : 0 ≤ x13_1
     ·rw [if_pos c5] at H
      have c5b0 : decide (0 ≤ x13_1) = true := decide_eq_true c5
      clear c5
      by_cases c6 : x13_1 < (l0.length : Int)
      ·rw [if_pos c6] at H
       have c6b0 : decide (x13_1 < (l0.length : Int)) = true := decide_eq_true c6
       clear c6
       by_cases c7 : x13_1 < (l1.length : Int)
       ·rw [if_pos c7] at H
        have c7b0 : decide (x13_1 < (l1.length : Int)) = true := decide_eq_true c7
        clear c7
        by_cases c8 : (rdOf ByteArray.empty l0 x13_1).toList = (rdOf ByteArray.empty l1 x13_1).toList
        ·rw [if_pos c8] at H
         have c8b0 : ((rdOf ByteArray.empty l0 x13_1).toList == (rdOf ByteArray.empty l1 x13_1).toList) = true := beq_iff_eq.mpr c8
         have c8b1 : ((rdOf ByteArray.empty l0 x13_1).toList != (rdOf ByteArray.empty l1 x13_1).toList) = false := bne_eq_false_iff_eq.mpr c8
         clear c8
         have H' := Aside0.mk H
         clear H
         have p361 : 0 ≤ (x13_1 : Int) := od_
         have q361 : x13_1 < (l0.length : Int) := od_
         obtain ⟨ad361, e361, hx361_0⟩ := Kd.at_string HR0.out x13_1 p361 q361
         cases e361
         replace p361 := eq_true p361
         replace q361 := eq_true q361
         have p362 : 0 ≤ (x13_1 : Int) := od_
         have q362 : x13_1 < (l1.length : Int) := od_
         obtain ⟨ad362, e362, hx362_0⟩ := Kd.at_string HR1.out x13_1 p362 q362
         cases e362
         replace p362 := eq_true p362
         replace q362 := eq_true q362
         go_wp2
         repeat (go_quiet (fail); try go_wp2)
         go_roundg k1
         case measure => have := HK1.out; omega
         case rel => exact ⟨(wrap64 (x13_1 + 1)), (by first | rfl | (simp; done) | (simp [*]; done)), H', ⟨by have := HK1.out; omega⟩, by repeat (first | exact Drawn0.refl _ | apply Drawn0.step)⟩
        ·rw [if_neg c8] at H
         have c8b0 : ((rdOf ByteArray.empty l0 x13_1).toList == (rdOf ByteArray.empty l1 x13_1).toList) = false := beq_eq_false_iff_ne.mpr c8
         have c8b1 : ((rdOf ByteArray.empty l0 x13_1).toList != (rdOf ByteArray.empty l1 x13_1).toList) = true := bne_iff_ne.mpr c8
         obtain rfl := Option.some.inj H
         have p361 : 0 ≤ (x13_1 : Int) := od_
         have q361 : x13_1 < (l0.length : Int) := od_
         obtain ⟨ad361, e361, hx361_0⟩ := Kd.at_string HR0.out x13_1 p361 q361
         cases e361
         replace p361 := eq_true p361
         replace q361 := eq_true q361
         have p362 : 0 ≤ (x13_1 : Int) := od_
         have q362 : x13_1 < (l1.length : Int) := od_
         obtain ⟨ad362, e362, hx362_0⟩ := Kd.at_string HR1.out x13_1 p362 q362
         cases e362
         replace p362 := eq_true p362
         replace q362 := eq_true q362
         go_wp2
         repeat (go_quiet (fail); try go_wp2)
         go_ret
         exact ⟨by first | rfl | (simp; done) | (simp [*]; done), by repeat (first | exact Drawn0.refl _ | apply Drawn0.step)⟩
       ·rw [if_neg c7] at H
        exact absurd H (by simp)
      ·rw [if_neg c6] at H
       exact absurd H (by simp)
     ·rw [if_neg c5] at H
      exact absurd H (by simp)
    ·rw [if_neg c4] at H
     have c4b0 : decide (x13_1 < (l0.length : Int)) = false := decide_eq_false c4
     clear c4
     obtain rfl := Option.some.inj H
     go_wp2
     repeat (go_quiet (fail); try go_wp2)
     go_ret
     exact ⟨by first | rfl | (simp; done) | (simp [*]; done), by repeat (first | exact Drawn0.refl _ | apply Drawn0.step)⟩
 ·rw [if_neg c3] at H
  have c3b0 : ((l0.length : Int) == (l1.length : Int)) = false := beq_eq_false_iff_ne.mpr c3
  have c3b1 : ((l0.length : Int) != (l1.length : Int)) = true := bne_iff_ne.mpr c3
  have c3b2 : (l0.length == l1.length) = false := by first | simpa using c3 | (simp at c3 ⊢; omega)
  obtain rfl := Option.some.inj H
  go_enter Tryz.func40, Tryz.ntmps40
  go_wp2
  repeat (go_quiet (fail); try go_wp2)
  go_ret
  exact ⟨by first | rfl | (simp; done) | (simp [*]; done), by repeat (first | exact Drawn0.refl _ | apply Drawn0.step)⟩
end Go.Proofs.YtcljnjnlafkieaaGreatDoorR.PPLN
