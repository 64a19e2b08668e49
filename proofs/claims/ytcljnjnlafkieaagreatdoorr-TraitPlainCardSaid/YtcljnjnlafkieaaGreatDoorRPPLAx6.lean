-- Written by this session's program (wip/tools/pr.py over the kit's print).
import Derived.Test.YtcljnjnlafkieaaGreatDoorRPh
import Derived.Test.YtcljnjnlafkieaaGreatDoorRPPLAx0
import Derived.Test.YtcljnjnlafkieaaGreatDoorRPPLAx5
namespace Go.Proofs.YtcljnjnlafkieaaGreatDoorR.PPLA
open Go.RowKit Go.Proofs.YtcljnjnlafkieaaGreatDoorRW.PrintWords Go.Proofs.YtcljnjnlafkieaaGreatDoorRW.PrintLast Go.Proofs.YtcljnjnlafkieaaGreatDoorRW.PrintMore
attribute [local go_sem] max2_int min2_int max_two min_two max_three min_three max_four min_four
set_option linter.unusedVariables false
set_option linter.unusedSimpArgs false
def kidsP (T : Nat → Option (List S45 × Nat)) (kind : Int) : Nat → List S45 → Nat → Option (List S45 × Nat)
 | 0, out, i => some (out, i)
 | m + 1, out, i => (T i).bind fun x => match x.1, out with
  | k0 :: kt, o0 :: ot => if k0.f0 = kind then kidsP T kind m (({ o0 with f1 := wrap64 (o0.f1 + k0.f1) } :: ot) ++ kt) x.2 else kidsP T kind m (({ o0 with f1 := wrap64 (o0.f1 + 1) } :: ot) ++ (k0 :: kt)) x.2
  | _, _ => none
def plainF (l : List S45) : Nat → Bool → Nat → Option (List S45 × Nat)
 | 0, _, _ => none
 | d + 1, nt, i =>
  if i < l.length then
   if (rd_T45 l (i : Int)).f0 = 3 then plainF l d (!nt) (i + 1)
   else if (rd_T45 l (i : Int)).f0 = 1 ∨ (rd_T45 l (i : Int)).f0 = 2 then
    kidsP (plainF l d nt) (if nt = true then 3 - (rd_T45 l (i : Int)).f0 else (rd_T45 l (i : Int)).f0) (rd_T45 l (i : Int)).f1.toNat [⟨if nt = true then 3 - (rd_T45 l (i : Int)).f0 else (rd_T45 l (i : Int)).f0, 0, ⟨#[]⟩, 0, ⟨0, 0⟩⟩] (i + 1)
   else (traits_bare.f (rd_T45 l (i : Int)).f0 (rd_T45 l (i : Int)).f1 (rd_T45 l (i : Int)).f2 (rd_T45 l (i : Int)).f3 (rd_T45 l (i : Int)).f4.f0 (rd_T45 l (i : Int)).f4.f1 nt).map fun o => (o, i + 1)
  else none
def traits_Plain.f (k : Nat) (l0 : List S45) : Option (List S45 × Int) :=
 (traits_Check.f k l0).bind fun e => if e = 0 then if l0.length = 0 then some ([], 0) else (plainF l0 20 false 0).bind fun x => if 64 < x.1.length then some ([], 3) else some (x.1, 0) else some ([], e)
theorem flat_inj (w : World) (base : Nat) (ok : Nat → Prop) : ∀ (xs : List S45) (inner : List Value), inner.length = xs.length * 6 → (∀ j p, xs[j]? = some p → k45.M w base ok p ((inner.drop (j * 6)).take 6)) → inner = xs.flatMap flat32
 | [], inner, hl, _ => by
  have : inner.length = 0 := by simpa using hl
  rw [List.length_eq_zero_iff.1 this]; rfl
 | x :: xs, inner, hl, h => by
  have h0 := h 0 x rfl
  rw [Nat.zero_mul, List.drop_zero] at h0
  have h0 : inner.take 6 = flat32 x := k45_openM h0
  have ht := flat_inj w base ok xs (inner.drop 6) (by rw [List.length_drop, hl, List.length_cons]; omega) (fun j p hj => by
   have := h (j + 1) p (by simpa using hj)
   rw [List.drop_drop, show 6 + j * 6 = (j + 1) * 6 from by omega]
   exact this)
  rw [List.flatMap_cons, ← h0, ← ht, List.take_append_drop]
theorem R_open {w : World} {base : Nat} {ok : Nat → Prop} {v : Value} {xs : List S45} (h : Kd.R k45 45 w base ok v xs) (hne : xs ≠ []) :
  ∃ g cap cur, v = .slice (some ⟨g, 0, none⟩) xs.length cap ∧ base ≤ g ∧ w.heap[g]? = some (.cells cur 45 (0, 0)) ∧ xs.length ≤ cap ∧ cap ≤ maxLen ∧ cur.size = cap * 6 ∧ cur.toList.take (xs.length * 6) = xs.flatMap flat32 := by
 obtain ⟨_, inner, ⟨hl, ho⟩, hr⟩ := h
 have h6 : k45.sz = 6 := rfl
 rw [h6] at hl ho hr
 have hin := flat_inj w base _ xs inner hl hr.2
 rcases ho with ⟨_, h0⟩ | ⟨g, cap, cur, h1, h2, h3, h4, h5, h7, h8⟩
 ·exact absurd (List.length_eq_zero_iff.1 h0) hne
 ·exact ⟨g, cap, cur, h1, h2, h3, h4, h5, h7, h8.trans hin⟩
theorem R_shut {w : World} {base g cap : Nat} {cur : Array Value} {xs : List S45} (h2 : base ≤ g) (h3 : w.heap[g]? = some (.cells cur 45 (0, 0))) (h4 : xs.length ≤ cap) (h5 : cap ≤ maxLen) (h7 : cur.size = cap * 6) (h8 : cur.toList.take (xs.length * 6) = xs.flatMap flat32) :
  Kd.R k45 45 w base (fun _ => True) (.slice (some ⟨g, 0, none⟩) xs.length cap) xs := by
 have h6 : k45.sz = 6 := rfl
 refine ⟨fun _ _ => trivial, xs.flatMap flat32, ?_, by rw [h6]; exact reps32 w base _ xs⟩
 rw [h6]
 exact ⟨flat_len xs, Or.inr ⟨g, cap, cur, rfl, h2, h3, h4, h5, h7, h8⟩⟩
theorem row_cell {w : World} {g : Nat} {cur : Array Value} {xs : List S45} (h3 : w.heap[g]? = some (.cells cur 45 (0, 0))) (h8 : cur.toList.take (xs.length * 6) = xs.flatMap flat32) (j : Nat) (u : Value) (hu : (xs.flatMap flat32)[j]? = some u) : w.cell? ⟨g, j, none⟩ = some u := by
 rw [Joins.cell_of_block h3, ← Array.getElem?_toList]
 rw [← h8, List.getElem?_take] at hu
 split at hu
 ·exact hu
 ·cases hu
theorem row_reads {w : World} {g : Nat} {cur : Array Value} {xs : List S45} (h3 : w.heap[g]? = some (.cells cur 45 (0, 0))) (h8 : cur.toList.take (xs.length * 6) = xs.flatMap flat32) (hl : xs.length ≤ 1000000) (k : Nat) :
  ReadsRow (fun (x : S45) cs => cs = flat32 x) 6 w (some ⟨g, k * 6, none⟩) (xs.length - k) (xs.drop k) := by
 refine ⟨by simp, by omega, fun _ => ⟨_, rfl, fun j p hj => ⟨flat32 p, rfl, rfl, fun i u hu => ?_⟩⟩⟩
 rw [List.getElem?_drop] at hj
 have hi : i < 6 := by
  have := (List.getElem?_eq_some_iff.1 hu).1
  simpa [flat32] using this
 have := flat_at w 0 (fun _ => True) xs (k + j) p hj
 have hM := k45_openM this
 have hcell := row_cell h3 h8 ((k + j) * 6 + i) u (by
  have e : ((xs.flatMap flat32).drop ((k + j) * 6)).take 6 = flat32 p := hM
  rw [← e, List.getElem?_take, if_pos hi, List.getElem?_drop] at hu
  exact hu)
 have e : (⟨g, k * 6, none⟩ : Addr).add (j * 6 + i) = ⟨g, (k + j) * 6 + i, none⟩ := by
  have q : k * 6 + (j * 6 + i) = (k + j) * 6 + i := by omega
  simp [Addr.add, q]
  intro _ _; omega
 rw [e]; exact hcell
theorem row_put {w : World} {base g cap : Nat} {cur : Array Value} {o0 : S45} {ot : List S45} (z : Int) (h2 : base ≤ g) (h3 : w.heap[g]? = some (.cells cur 45 (0, 0))) (h4 : (o0 :: ot).length ≤ cap) (h5 : cap ≤ maxLen) (h7 : cur.size = cap * 6) (h8 : cur.toList.take ((o0 :: ot).length * 6) = (o0 :: ot).flatMap flat32) :
  Kd.R k45 45 (w.setCell ⟨g, 1, none⟩ (.int .i64 z)) base (fun _ => True) (.slice (some ⟨g, 0, none⟩) (o0 :: ot).length cap) ({ o0 with f1 := z } :: ot) := by
 have hb := Joins.block_setCell (i := 1) h3 (.int .i64 z)
 refine R_shut (xs := { o0 with f1 := z } :: ot) h2 hb h4 h5 (by rw [Array.size_setIfInBounds]; exact h7) ?_
 rw [Array.toList_setIfInBounds, List.take_set]
 rw [show ({ o0 with f1 := z } :: ot : List S45).length = (o0 :: ot).length from rfl, h8]
 rfl
theorem kidsP_len (T : Nat → Option (List S45 × Nat)) (hT : ∀ i o j, T i = some (o, j) → i < j ∧ o.length ≤ 2 * (j - i)) (kind : Int) : ∀ m out i o j, kidsP T kind m out i = some (o, j) → i ≤ j ∧ o.length ≤ out.length + 2 * (j - i)
 | 0, out, i, o, j, h => by
  obtain ⟨rfl, rfl⟩ := Prod.mk.inj (Option.some.inj h); exact ⟨Nat.le_refl _, Nat.le_add_right _ _⟩
 | m + 1, out, i, o, j, h => by
  rw [kidsP] at h
  obtain ⟨⟨kid, i2⟩, h1, h⟩ := Option.bind_eq_some_iff.mp h
  obtain ⟨g1, g2⟩ := hT _ _ _ h1
  cases kid with
  | nil => cases h
  | cons k0 kt =>
   cases out with
   | nil => cases h
   | cons o0 ot =>
    simp only [] at h
    simp only [List.length_cons] at g2 ⊢
    split at h
    ·have := kidsP_len T hT kind m _ _ _ _ h
     simp only [List.length_cons, List.length_append] at this
     omega
    ·have := kidsP_len T hT kind m _ _ _ _ h
     simp only [List.length_cons, List.length_append] at this
     omega
theorem bare_len (a b : Int) (c : ByteArray) (d e f : Int) (nt : Bool) (r : List S45) (h : traits_bare.f a b c d e f nt = some r) : r.length ≤ 2 := by
 unfold traits_bare.f at h
 split at h
 ·split at h
  ·obtain ⟨_, _, rfl⟩ := Option.map_eq_some_iff.mp h; simp
  ·obtain rfl := Option.some.inj h; simp
 ·obtain rfl := Option.some.inj h; simp
theorem plainF_len (l : List S45) : ∀ (d : Nat) (nt : Bool) (i : Nat) (o : List S45) (j : Nat), plainF l d nt i = some (o, j) → i < j ∧ o.length ≤ 2 * (j - i)
 | 0, _, _, _, _, h => by simp [plainF] at h
 | d + 1, nt, i, o, j, h => by
  rw [plainF] at h
  split at h
  ·split at h
   ·have := plainF_len l d _ _ _ _ h; omega
   ·split at h
    ·have := kidsP_len _ (plainF_len l d nt) _ _ _ _ _ _ h
     simp only [List.length_cons, List.length_nil] at this
     omega
    ·obtain ⟨o', ho, h⟩ := Option.map_eq_some_iff.mp h
     obtain ⟨rfl, rfl⟩ := Prod.mk.inj h
     have := bare_len _ _ _ _ _ _ _ _ ho
     omega
  ·cases h
theorem put_grown (w2 : World) (g : Nat) (z : Value) : w2.grownBy (w2.setCell ⟨g, 1, none⟩ z).drew (some g) := by
 have h : Below 0 w2 (w2.setCell ⟨g, 1, none⟩ z) := (Below.refl 0 w2).setCell (Nat.zero_le _) z
 refine ⟨h.os, h.tape, h.output, ?_, fun k _ hne => Below.heap_setCell _ _ _ _ (by show k ≠ g; intro e; exact hne (by rw [e]))⟩
 show w2.heap.size ≤ (w2.setCell ⟨g, 1, none⟩ z).heap.size
 simp
theorem put_grown1 (w2 : World) (g : Nat) (z : Value) : w2.grownBy (w2.setCell ⟨g, 1, none⟩ z) (some g) := by
 have h : Below 0 w2 (w2.setCell ⟨g, 1, none⟩ z) := (Below.refl 0 w2).setCell (Nat.zero_le _) z
 refine ⟨h.os, h.tape, h.output, ?_, fun k _ hne => Below.heap_setCell _ _ _ _ (by show k ≠ g; intro e; exact hne (by rw [e]))⟩
 show w2.heap.size ≤ (w2.setCell ⟨g, 1, none⟩ z).heap.size
 simp
theorem round_on {w wr w2 W w1 : World} {a g : Nat} {oa ob : Obj} (hg : w.grownBy wr (some a)) (hg2 : wr.grownBy w2 (some a)) (hA2 : w2.heap[a]? = some oa) (hgb : w.heap.size + 1 ≤ g) (hgw : g < wr.heap.size) (hlt : a < w.heap.size) (hW : w2.grownBy W (some g)) (h1 : W.grownBy w1 (some g)) (hS : wr.heap[w.heap.size]? = some ob) :
  w.grownBy w1 (some a) ∧ w1.heap[a]? = some oa ∧ w1.heap[w.heap.size]? = some ob := by
 have s1 := hg.size
 have s2 := hg2.size
 have s3 := hW.size
 have s4 := h1.size
 have hk : ∀ k, k < wr.heap.size → k ≠ g → w1.heap[k]? = w2.heap[k]? := fun k h hne =>
  (h1.block k (by omega) (by simpa using hne)).trans (hW.block k (by omega) (by simpa using hne))
 refine ⟨⟨h1.os.trans (hW.os.trans (hg2.os.trans hg.os)), h1.tape.trans (hW.tape.trans (hg2.tape.trans hg.tape)), h1.output.trans (hW.output.trans (hg2.output.trans hg.output)), by omega, fun k h hne => ?_⟩, ?_, ?_⟩
 ·exact (hk k (by omega) (by omega)).trans ((hg2.block k (by omega) hne).trans (hg.block k h hne))
 ·exact (hk a (by omega) (by omega)).trans hA2
 ·exact (hk w.heap.size (by omega) (by omega)).trans ((hg2.block _ (by omega) (by simp; omega)).trans hS)
structure TP (w : World) (n a t : Nat) (A0 : Option Addr) (len c0 : Nat) (i : Nat) : Prop where
 at_ : w.heap[a]? = some (.cells #[.int .i64 (i : Int)] 3 (0, 0))
 nodes : w.heap[n]? = some (.cells #[.slice A0 len c0] 22 (0, 0))
 tree : w.heap[t]? = some (.cells #[.func (.func 18) #[] #[.pointer (some ⟨n, 0, none⟩), .pointer (some ⟨a, 0, none⟩), .pointer (some ⟨t, 0, none⟩)]] 47 (0, 0))
theorem TP.na {w : World} {n a t : Nat} {A0 : Option Addr} {len c0 i : Nat} (h : TP w n a t A0 len c0 i) : n ≠ a := fun e => by
 have h1 := h.nodes; rw [e, h.at_] at h1; simp at h1
theorem TP.ta {w : World} {n a t : Nat} {A0 : Option Addr} {len c0 i : Nat} (h : TP w n a t A0 len c0 i) : t ≠ a := fun e => by
 have h1 := h.tree; rw [e, h.at_] at h1; simp at h1
theorem TP.on {w w' : World} {n a t : Nat} {A0 : Option Addr} {len c0 i i' : Nat} (h : TP w n a t A0 len c0 i) (hg : w.grownBy w' (some a)) (ha : w'.heap[a]? = some (.cells #[.int .i64 (i' : Int)] 3 (0, 0))) : TP w' n a t A0 len c0 i' :=
 ⟨ha, (hg.block n (lt_of_block h.nodes) (by have := h.na; simpa using this)).trans h.nodes, (hg.block t (lt_of_block h.tree) (by have := h.ta; simpa using this)).trans h.tree⟩
set_option maxRecDepth 100000 in
set_option maxHeartbeats 4000000 in
theorem plain_calls (w0 : World) (l : List S45) (A0 : Option Addr) (c0 : Nat) (hC : Kd.C k45 w0 A0 l.length l) (hl : l.length ≤ 64) (n a t : Nat) (ha : w0.heap.size ≤ a) :
  ∀ (d : Nat) (nt : Bool) (i : Nat) (out : List S45) (j : Nat) (w : World), i ≤ l.length → plainF l d nt i = some (out, j) → Below w0.heap.size w0 w → TP w n a t A0 l.length c0 i →
   Calls Tryz.prog 18 #[.bool nt, .pointer (some ⟨n, 0, none⟩), .pointer (some ⟨a, 0, none⟩), .pointer (some ⟨t, 0, none⟩)] w fun e w' =>
    ∃ v : Value, e = .returned v ∧ Kd.R k45 45 w' w.heap.size (fun _ => True) v out ∧ w.grownBy w' (some a) ∧ j ≤ l.length ∧ w'.heap[a]? = some (.cells #[.int .i64 (j : Int)] 3 (0, 0))
 | 0, _, _, _, _, _, _, h, _, _ => by simp [plainF] at h
 | d + 1, nt, i, out, j, w, hi, h, hb, hT => by
  have ih := plain_calls w0 l A0 c0 hC hl n a t ha d
  have hcA := cell_of_one hT.at_
  have hfA := free_of_one hT.at_
  have hcN := cell_of_one hT.nodes
  have hltA := lt_of_block hT.at_
  have hcA1 : ∀ o, (w.alloc o).cell? ⟨a, 0, none⟩ = some (.int .i64 (i : Int)) := fun o => (((Below.refl w.heap.size w).alloc (Nat.le_refl _) o).cell hltA).trans hcA
  have hfA1 : ∀ o, (w.alloc o).frozen? ⟨a, 0, none⟩ = false := fun o => (((Below.refl w.heap.size w).alloc (Nat.le_refl _) o).frozen hltA).trans hfA
  have hne1 : ¬ a = w.heap.size := by omega
  have hne2 : ¬ w.heap.size = a := by omega
  rw [plainF] at h
  by_cases c1 : i < l.length
  ·rw [if_pos c1] at h
   have hi64 : (i : Int) < 64 := by omega
   have hi0 : 0 ≤ (i : Int) := by omega
   have hiz : (i : Int) < (l.length : Int) := by omega
   obtain ⟨ad, rfl, x0, x1, x2, x3, x4, x5⟩ := at_T45 (Kd.C_below hC hb) (i : Int) hi0 hiz
   obtain ⟨m, hm⟩ : ∃ m, rd_T45 l (i : Int) = m := ⟨_, rfl⟩
   rw [hm] at x0 x1 x2 x3 x4 x5 h
   simp only [Int.toNat_natCast] at x0 x1 x2 x3 x4 x5
   have hafter := fun (w' : World) (v : Value) (o : Obj) => after_sa (w' := w') (v := v) (o := o) hT.at_
   have hbelow := below_sp hb ha
   have hTon := fun (w' : World) (i' : Nat) => hT.on (w' := w') (i' := i')
   obtain ⟨hgr1, hT1⟩ : w.grownBy ((w.setCell ⟨a, 0, none⟩ (.int .i64 ((i : Int) + 1))).alloc (.cells #[.int .i64 m.f0, .int .i64 m.f1, .string m.f2, .int .i64 m.f3, .int .i64 m.f4.f0, .int .i64 m.f4.f1] 45)) (some a) ∧ TP ((w.setCell ⟨a, 0, none⟩ (.int .i64 ((i : Int) + 1))).alloc (.cells #[.int .i64 m.f0, .int .i64 m.f1, .string m.f2, .int .i64 m.f3, .int .i64 m.f4.f0, .int .i64 m.f4.f1] 45)) n a t (some ad) l.length c0 (i + 1) := by
    obtain ⟨q1, q2, q3⟩ := hafter _ (.int .i64 ((i : Int) + 1)) (.cells #[.int .i64 m.f0, .int .i64 m.f1, .string m.f2, .int .i64 m.f3, .int .i64 m.f4.f0, .int .i64 m.f4.f1] 45) (Below.refl _ _)
    exact ⟨q1, hTon _ _ q1 (by simpa using q2)⟩
   have hcT1 := cell_of_one hT1.tree
   by_cases c2 : m.f0 = 3
   ·rw [if_pos c2] at h
    have e3 : (m.f0 == 3) = true := beq_iff_eq.2 c2
    have e3' : (3 == m.f0) = true := by rw [c2]; rfl
    clear c2
    go_enter Tryz.func18, Tryz.ntmps18
    go_wp2_with (go_at_call 18; go_must (refine (ih (!nt) (i + 1) out j _ (by omega) h (hbelow _ _) hT1).mono ?_; rintro e w2 ⟨v, rfl, hR, hg2, hj2, hA2⟩))
    go_ret
    exact ⟨v, rfl, Kd.R_lower hR hgr1.size, hgr1.trans hg2, by first | exact ⟨hj2, hA2⟩ | exact hA2⟩
   ·rw [if_neg c2] at h
    have e3 : (m.f0 == 3) = false := beq_eq_false_iff_ne.2 c2
    have e3' : (3 == m.f0) = false := beq_eq_false_iff_ne.2 (fun e => c2 e.symm)
    clear c2
    by_cases c3 : m.f0 = 1 ∨ m.f0 = 2
    ·rw [if_pos c3] at h
     have b1 : 1 ≤ m.f0 := by omega
     have b2 : m.f0 ≤ 2 := by omega
     cases nt with
     | false =>
      have h : kidsP (plainF l d false) (m.f0) m.f1.toNat [⟨m.f0, 0, ⟨#[]⟩, 0, ⟨0, 0⟩⟩] (i + 1) = some (out, j) := h
      rcases c3 with c3 | c3
      ·have e1 : (m.f0 == 1) = true := by rw [c3]; rfl
       have e1' : (1 == m.f0) = true := by rw [c3]; rfl
       have e2 : (m.f0 == 2) = false := by rw [c3]; rfl
       have e2' : (2 == m.f0) = false := by rw [c3]; rfl
       clear c3
       go_enter Tryz.func18, Tryz.ntmps18
       go_wp2
       go_loopw [8, 37] (fun vo v wr => ∃ (q i' : Nat) (o0 : S45) (ot : List S45), v = .int .i64 q ∧ q ≤ m.f1.toNat ∧ q + i + 1 ≤ i' ∧ i' ≤ l.length ∧ ot.length + 1 ≤ 2 * (i' - i) ∧ kidsP (plainF l d false) (m.f0) (m.f1.toNat - q) (o0 :: ot) i' = some (out, j) ∧ Kd.R k45 45 wr (w.heap.size + 1) (fun _ => True) vo (o0 :: ot) ∧ w.grownBy wr (some a) ∧ wr.heap[a]? = some (.cells #[.int .i64 (i' : Int)] 3 (0, 0)) ∧ wr.heap[w.heap.size]? = some (.cells #[.int .i64 m.f0, .int .i64 m.f1, .string m.f2, .int .i64 m.f3, .int .i64 m.f4.f0, .int .i64 m.f4.f1] 45 (0, 0)))
        (fun _ v _ => m.f1.toNat - (intOf v).toNat)
       case atStart =>
        have hs : (w.setCell ⟨a, 0, none⟩ (.int .i64 ((i : Int) + 1))).heap.size = w.heap.size := by simp
        refine ⟨0, i + 1, ⟨m.f0, 0, ⟨#[]⟩, 0, ⟨0, 0⟩⟩, [], rfl, Nat.zero_le _, by omega, by omega, by show 0 + 1 ≤ 2 * (i + 1 - i); omega, h, ?_, ?_, ?_, ?_⟩
        ·have := new2 (w.setCell ⟨a, 0, none⟩ (.int .i64 ((i : Int) + 1))) (.cells #[.int .i64 m.f0, .int .i64 m.f1, .string m.f2, .int .i64 m.f3, .int .i64 m.f4.f0, .int .i64 m.f4.f1] 45) (.cells #[.int .i64 (m.f0), .int .i64 0, .string ⟨#[]⟩, .int .i64 0, .int .i64 0, .int .i64 0] 45)
         rw [hs] at this
         exact R_nodes _ _ (w.heap.size + 1) [⟨m.f0, 0, ⟨#[]⟩, 0, ⟨0, 0⟩⟩] (by simp) (by simp) (Nat.le_refl _) this
        ·exact hgr1.trans (World.grownBy_alloc _ _ _)
        ·exact (Below.heap_alloc _ _ _ (lt_of_block hT1.at_)).trans hT1.at_
        ·obtain ⟨_, _, q3⟩ := hafter _ (.int .i64 ((i : Int) + 1)) (.cells #[.int .i64 m.f0, .int .i64 m.f1, .string m.f2, .int .i64 m.f3, .int .i64 m.f4.f0, .int .i64 m.f4.f1] 45) (Below.refl _ _)
         exact (Below.heap_alloc _ _ _ (lt_of_block q3)).trans q3
       case round =>
        obtain ⟨q, i', o0, ot, rfl, hq, hqi, hi', hol, hk, hR, hg, hA', hS'⟩ := hrel
        clear hcA hfA hcN hcA1 hfA1 hne1 hne2 x0 x1 x2 x3 x4 x5 hcT1
        have hq64 : (q : Int) < 64 := by omega
        by_cases c5 : (q : Int) < m.f1
        ·rw [show m.f1.toNat - q = (m.f1.toNat - (q + 1)) + 1 from by omega, kidsP] at hk
         obtain ⟨⟨kid, i2⟩, hk1, hk⟩ := Option.bind_eq_some_iff.mp hk
         have hlen := plainF_len l d false i' kid i2 hk1
         obtain ⟨g, cap, cur, rfl, hgb, hcur, hlc, hcm, hcs, hct⟩ := R_open hR (by simp)
         have hT' := hTon wr i' hg hA'
         have hbr : Below w0.heap.size w0 wr := hb.grown hg hb.size (fun k hk => by cases hk; exact ha)
         have hcT' := cell_of_one hT'.tree
         have hga : some g ≠ some a := by simp; omega
         have hgw : g < wr.heap.size := lt_of_block hcur
         cases kid with
         | nil => cases hk
         | cons k0 kt =>
          have hkl : kt.length + 1 ≤ 2 * (i2 - i') := hlen.2
          have hlc' : ot.length + 1 ≤ cap := hlc
          have hlt2 := hlen.1
          clear hlen
          by_cases c6 : k0.f0 = m.f0
          ·have hk : kidsP (plainF l d false) (m.f0) (m.f1.toNat - (q + 1)) (({ o0 with f1 := wrap64 (o0.f1 + k0.f1) } :: ot) ++ kt) i2 = some (out, j) := by
            have := hk; simp only [] at this; rw [if_pos c6] at this; exact this
           have HK := Lib.hid hk
           clear hk
           have d1 : (k0.f0 == m.f0) = true := beq_iff_eq.2 c6
           clear c6
           go_wp2_with (go_at_call 18; go_must (refine (ih false i' _ i2 wr hi' hk1 hbr hT').mono ?_; rintro e w2 ⟨vk, rfl, hRk, hg2, hj2, hA2⟩; obtain ⟨gk, capk, curk, rfl, hgk, hck, hk4, hk5, hk7, hk8⟩ := R_open hRk (by simp); have y0 := row_cell hck hk8 0 (.int .i64 k0.f0) rfl; have y1 := row_cell hck hk8 1 (.int .i64 k0.f1) rfl; have hc2 := (hg2.block g hgw hga).trans hcur; have z1 := row_cell hc2 hct 1 (.int .i64 o0.f1) rfl; have zf := Joins.unfrozen_of_block hc2 1))
           have hk4' : kt.length + 1 ≤ capk := hk4
           have hRW := Kd.R_drew (row_put (wrap64 (o0.f1 + k0.f1)) hgb hc2 hlc hcm hcs hct)
           have hgne : gk ≠ g := by omega
           have hck1 : (w2.setCell ⟨g, 1, none⟩ (.int .i64 (wrap64 (o0.f1 + k0.f1)))).drew.heap[gk]? = some (.cells curk 45 (0, 0)) := (Below.heap_setCell _ _ _ _ hgne).trans hck
           have hsz2 : wr.heap.size ≤ w2.heap.size := hg2.size
           have hGW : w2.grownBy (w2.setCell ⟨g, 1, none⟩ (.int .i64 (wrap64 (o0.f1 + k0.f1)))).drew (some g) := put_grown w2 g _
           have hszW : w.heap.size + 1 ≤ (w2.setCell ⟨g, 1, none⟩ (.int .i64 (wrap64 (o0.f1 + k0.f1)))).drew.heap.size := by have := hGW.size; omega
           go_region
           by_cases cc : capk = 1
           ·have hkt : kt.length = 0 := by omega
            obtain rfl : kt = [] := List.eq_nil_of_length_eq_zero hkt
            subst cc
            have hRd : ReadsRow (fun (x : S45) cs => cs = flat32 x) k45.sz (w2.setCell ⟨g, 1, none⟩ (.int .i64 (wrap64 (o0.f1 + k0.f1)))).drew (some ⟨gk, 0, none⟩) 0 [] := ⟨rfl, by decide, fun h => absurd h (by decide)⟩
            clear y0 y1 z1 zf hk4 hk5 hk7 hk8 hck hc2 hcur hkt
            go_wp2_with ((with_reducible refine gate_builtin (b := .append) (xs := #[.tmp 68, .tmp 69]) rfl ?_); at_builtin; go_must (refine Kd.R_append_rows k45 (Rr := fun x cs => cs = flat32 x) (w0 := (w2.setCell ⟨g, 1, none⟩ (.int .i64 (wrap64 (o0.f1 + k0.f1)))).drew) (w.heap.size + 1) rfl (.tmp 68) (.tmp 69) 22 45 (.agg #[(.int .i64 0), (.int .i64 0), (.string ⟨#[]⟩), (.int .i64 0), (.int .i64 0), (.int .i64 0)]) 56 rfl Tryz.underlying22 info45 rfl (by decide) (by omega) (.slice (some ⟨g, 0, none⟩) (ot.length + 1) cap) ({ o0 with f1 := wrap64 (o0.f1 + k0.f1) } :: ot) [] _ _ _ (fun _ => True) (fun _ => False) rfl rfl hRW hRd (fun x cs e => by rw [e]; exact k32_M x _ _ _) (fun _ h => h.elim) (fun _ _ => trivial) (Below.refl _ _) hszW (by simp; omega) ?_; intro v1 w1 hR1 hb1 hg1 _; obtain ⟨hg3, hA3, hS3⟩ := round_on hg hg2 hA2 hgb hgw hltA hGW hg1 hS'; clear hb1 hg1 hRW hRd hGW hszW hck1))
            go_roundw
            case rel => exact ⟨q + 1, i2, _, _, by go_num, by omega, by omega, hj2, by simp; omega, HK.out, hR1, hg3, hA3, hS3⟩
            case measure => simp [intOf]; omega
           ·have hRd : ReadsRow (fun (x : S45) cs => cs = flat32 x) k45.sz (w2.setCell ⟨g, 1, none⟩ (.int .i64 (wrap64 (o0.f1 + k0.f1)))).drew (some ⟨gk, 6, none⟩) kt.length kt := row_reads (xs := k0 :: kt) hck1 hk8 (by simp; omega) 1
            clear y0 y1 z1 zf hk4 hk5 hk7 hk8 hck hc2 hcur
            go_wp2_with ((with_reducible refine gate_builtin (b := .append) (xs := #[.tmp 68, .tmp 69]) rfl ?_); at_builtin; go_must (refine Kd.R_append_rows k45 (Rr := fun x cs => cs = flat32 x) (w0 := (w2.setCell ⟨g, 1, none⟩ (.int .i64 (wrap64 (o0.f1 + k0.f1)))).drew) (w.heap.size + 1) rfl (.tmp 68) (.tmp 69) 22 45 (.agg #[(.int .i64 0), (.int .i64 0), (.string ⟨#[]⟩), (.int .i64 0), (.int .i64 0), (.int .i64 0)]) 56 rfl Tryz.underlying22 info45 rfl (by decide) (by omega) (.slice (some ⟨g, 0, none⟩) (ot.length + 1) cap) ({ o0 with f1 := wrap64 (o0.f1 + k0.f1) } :: ot) kt _ _ _ (fun _ => True) (fun _ => False) rfl rfl hRW hRd (fun x cs e => by rw [e]; exact k32_M x _ _ _) (fun _ h => h.elim) (fun _ _ => trivial) (Below.refl _ _) hszW (by simp; omega) ?_; intro v1 w1 hR1 hb1 hg1 _; obtain ⟨hg3, hA3, hS3⟩ := round_on hg hg2 hA2 hgb hgw hltA hGW hg1 hS'; clear hb1 hg1 hRW hRd hGW hszW hck1))
            go_roundw
            case rel => exact ⟨q + 1, i2, _, _, by go_num, by omega, by omega, hj2, by simp; omega, HK.out, hR1, hg3, hA3, hS3⟩
            case measure => simp [intOf]; omega
          ·have hk : kidsP (plainF l d false) (m.f0) (m.f1.toNat - (q + 1)) (({ o0 with f1 := wrap64 (o0.f1 + 1) } :: ot) ++ (k0 :: kt)) i2 = some (out, j) := by
            have := hk; simp only [] at this; rw [if_neg c6] at this; exact this
           have HK := Lib.hid hk
           clear hk
           have d1 : (k0.f0 == m.f0) = false := beq_eq_false_iff_ne.2 c6
           clear c6
           go_wp2_with (first | (go_at_call 18; go_must (refine (ih false i' _ i2 wr hi' hk1 hbr hT').mono ?_; rintro e w2 ⟨vk, rfl, hRk, hg2, hj2, hA2⟩; obtain ⟨gk, capk, curk, rfl, hgk, hck, hk4, hk5, hk7, hk8⟩ := R_open hRk (by simp); have y0 := row_cell hck hk8 0 (.int .i64 k0.f0) rfl; have hc2 := (hg2.block g hgw hga).trans hcur; have z1 := row_cell hc2 hct 1 (.int .i64 o0.f1) rfl; have zf := Joins.unfrozen_of_block hc2 1; have hRW := row_put (wrap64 (o0.f1 + 1)) hgb hc2 hlc hcm hcs hct; have hgne : gk ≠ g := (by omega); have hRd : ReadsRow (fun (x : S45) cs => cs = flat32 x) k45.sz (w2.setCell ⟨g, 1, none⟩ (.int .i64 (wrap64 (o0.f1 + 1)))) (some ⟨gk, 0, none⟩) (kt.length + 1) (k0 :: kt) := row_reads (xs := k0 :: kt) ((Below.heap_setCell _ _ _ _ hgne).trans hck) hk8 (by simp; omega) 0; have hsz2 : wr.heap.size ≤ w2.heap.size := hg2.size; have hGW : w2.grownBy (w2.setCell ⟨g, 1, none⟩ (.int .i64 (wrap64 (o0.f1 + 1)))) (some g) := put_grown1 w2 g _; have hszW : w.heap.size + 1 ≤ (w2.setCell ⟨g, 1, none⟩ (.int .i64 (wrap64 (o0.f1 + 1)))).heap.size := (by have := hGW.size; omega))) | ((with_reducible refine gate_builtin (b := .append) (xs := #[.tmp 68, .tmp 69]) rfl ?_); at_builtin; go_must (refine Kd.R_append_rows k45 (Rr := fun x cs => cs = flat32 x) (w0 := (w2.setCell ⟨g, 1, none⟩ (.int .i64 (wrap64 (o0.f1 + 1))))) (w.heap.size + 1) rfl (.tmp 68) (.tmp 69) 22 45 (.agg #[(.int .i64 0), (.int .i64 0), (.string ⟨#[]⟩), (.int .i64 0), (.int .i64 0), (.int .i64 0)]) 56 rfl Tryz.underlying22 info45 rfl (by decide) (by omega) (.slice (some ⟨g, 0, none⟩) (ot.length + 1) cap) ({ o0 with f1 := wrap64 (o0.f1 + 1) } :: ot) (k0 :: kt) _ _ _ (fun _ => True) (fun _ => False) rfl rfl hRW hRd (fun x cs e => by rw [e]; exact k32_M x _ _ _) (fun _ h => h.elim) (fun _ _ => trivial) (Below.refl _ _) hszW (by simp; omega) ?_; intro v1 w1 hR1 hb1 hg1 _; obtain ⟨hg3, hA3, hS3⟩ := round_on hg hg2 hA2 hgb hgw hltA hGW hg1 hS'; clear hb1 hg1 hRW hRd hGW hszW)))
           go_roundw
           case rel => exact ⟨q + 1, i2, _, _, by go_num, by omega, by omega, hj2, by simp; omega, HK.out, hR1, hg3, hA3, hS3⟩
           case measure => simp [intOf]; omega
        ·rw [show m.f1.toNat - q = 0 from by omega, kidsP] at hk
         obtain ⟨rfl, rfl⟩ := Prod.mk.inj (Option.some.inj hk)
         go_wp2
         go_ret
         exact ⟨_, rfl, Kd.R_lower hR (Nat.le_succ _), hg, by first | exact ⟨hi', hA'⟩ | exact hA'⟩
      ·have e1 : (m.f0 == 1) = false := by rw [c3]; rfl
       have e1' : (1 == m.f0) = false := by rw [c3]; rfl
       have e2 : (m.f0 == 2) = true := by rw [c3]; rfl
       have e2' : (2 == m.f0) = true := by rw [c3]; rfl
       clear c3
       go_enter Tryz.func18, Tryz.ntmps18
       go_wp2
       go_loopw [8, 37] (fun vo v wr => ∃ (q i' : Nat) (o0 : S45) (ot : List S45), v = .int .i64 q ∧ q ≤ m.f1.toNat ∧ q + i + 1 ≤ i' ∧ i' ≤ l.length ∧ ot.length + 1 ≤ 2 * (i' - i) ∧ kidsP (plainF l d false) (m.f0) (m.f1.toNat - q) (o0 :: ot) i' = some (out, j) ∧ Kd.R k45 45 wr (w.heap.size + 1) (fun _ => True) vo (o0 :: ot) ∧ w.grownBy wr (some a) ∧ wr.heap[a]? = some (.cells #[.int .i64 (i' : Int)] 3 (0, 0)) ∧ wr.heap[w.heap.size]? = some (.cells #[.int .i64 m.f0, .int .i64 m.f1, .string m.f2, .int .i64 m.f3, .int .i64 m.f4.f0, .int .i64 m.f4.f1] 45 (0, 0)))
        (fun _ v _ => m.f1.toNat - (intOf v).toNat)
       case atStart =>
        have hs : (w.setCell ⟨a, 0, none⟩ (.int .i64 ((i : Int) + 1))).heap.size = w.heap.size := by simp
        refine ⟨0, i + 1, ⟨m.f0, 0, ⟨#[]⟩, 0, ⟨0, 0⟩⟩, [], rfl, Nat.zero_le _, by omega, by omega, by show 0 + 1 ≤ 2 * (i + 1 - i); omega, h, ?_, ?_, ?_, ?_⟩
        ·have := new2 (w.setCell ⟨a, 0, none⟩ (.int .i64 ((i : Int) + 1))) (.cells #[.int .i64 m.f0, .int .i64 m.f1, .string m.f2, .int .i64 m.f3, .int .i64 m.f4.f0, .int .i64 m.f4.f1] 45) (.cells #[.int .i64 (m.f0), .int .i64 0, .string ⟨#[]⟩, .int .i64 0, .int .i64 0, .int .i64 0] 45)
         rw [hs] at this
         exact R_nodes _ _ (w.heap.size + 1) [⟨m.f0, 0, ⟨#[]⟩, 0, ⟨0, 0⟩⟩] (by simp) (by simp) (Nat.le_refl _) this
        ·exact hgr1.trans (World.grownBy_alloc _ _ _)
        ·exact (Below.heap_alloc _ _ _ (lt_of_block hT1.at_)).trans hT1.at_
        ·obtain ⟨_, _, q3⟩ := hafter _ (.int .i64 ((i : Int) + 1)) (.cells #[.int .i64 m.f0, .int .i64 m.f1, .string m.f2, .int .i64 m.f3, .int .i64 m.f4.f0, .int .i64 m.f4.f1] 45) (Below.refl _ _)
         exact (Below.heap_alloc _ _ _ (lt_of_block q3)).trans q3
       case round =>
        obtain ⟨q, i', o0, ot, rfl, hq, hqi, hi', hol, hk, hR, hg, hA', hS'⟩ := hrel
        clear hcA hfA hcN hcA1 hfA1 hne1 hne2 x0 x1 x2 x3 x4 x5 hcT1
        have hq64 : (q : Int) < 64 := by omega
        by_cases c5 : (q : Int) < m.f1
        ·rw [show m.f1.toNat - q = (m.f1.toNat - (q + 1)) + 1 from by omega, kidsP] at hk
         obtain ⟨⟨kid, i2⟩, hk1, hk⟩ := Option.bind_eq_some_iff.mp hk
         have hlen := plainF_len l d false i' kid i2 hk1
         obtain ⟨g, cap, cur, rfl, hgb, hcur, hlc, hcm, hcs, hct⟩ := R_open hR (by simp)
         have hT' := hTon wr i' hg hA'
         have hbr : Below w0.heap.size w0 wr := hb.grown hg hb.size (fun k hk => by cases hk; exact ha)
         have hcT' := cell_of_one hT'.tree
         have hga : some g ≠ some a := by simp; omega
         have hgw : g < wr.heap.size := lt_of_block hcur
         cases kid with
         | nil => cases hk
         | cons k0 kt =>
          have hkl : kt.length + 1 ≤ 2 * (i2 - i') := hlen.2
          have hlc' : ot.length + 1 ≤ cap := hlc
          have hlt2 := hlen.1
          clear hlen
          by_cases c6 : k0.f0 = m.f0
          ·have hk : kidsP (plainF l d false) (m.f0) (m.f1.toNat - (q + 1)) (({ o0 with f1 := wrap64 (o0.f1 + k0.f1) } :: ot) ++ kt) i2 = some (out, j) := by
            have := hk; simp only [] at this; rw [if_pos c6] at this; exact this
           have HK := Lib.hid hk
           clear hk
           have d1 : (k0.f0 == m.f0) = true := beq_iff_eq.2 c6
           clear c6
           go_wp2_with (go_at_call 18; go_must (refine (ih false i' _ i2 wr hi' hk1 hbr hT').mono ?_; rintro e w2 ⟨vk, rfl, hRk, hg2, hj2, hA2⟩; obtain ⟨gk, capk, curk, rfl, hgk, hck, hk4, hk5, hk7, hk8⟩ := R_open hRk (by simp); have y0 := row_cell hck hk8 0 (.int .i64 k0.f0) rfl; have y1 := row_cell hck hk8 1 (.int .i64 k0.f1) rfl; have hc2 := (hg2.block g hgw hga).trans hcur; have z1 := row_cell hc2 hct 1 (.int .i64 o0.f1) rfl; have zf := Joins.unfrozen_of_block hc2 1))
           have hk4' : kt.length + 1 ≤ capk := hk4
           have hRW := Kd.R_drew (row_put (wrap64 (o0.f1 + k0.f1)) hgb hc2 hlc hcm hcs hct)
           have hgne : gk ≠ g := by omega
           have hck1 : (w2.setCell ⟨g, 1, none⟩ (.int .i64 (wrap64 (o0.f1 + k0.f1)))).drew.heap[gk]? = some (.cells curk 45 (0, 0)) := (Below.heap_setCell _ _ _ _ hgne).trans hck
           have hsz2 : wr.heap.size ≤ w2.heap.size := hg2.size
           have hGW : w2.grownBy (w2.setCell ⟨g, 1, none⟩ (.int .i64 (wrap64 (o0.f1 + k0.f1)))).drew (some g) := put_grown w2 g _
           have hszW : w.heap.size + 1 ≤ (w2.setCell ⟨g, 1, none⟩ (.int .i64 (wrap64 (o0.f1 + k0.f1)))).drew.heap.size := by have := hGW.size; omega
           go_region
           by_cases cc : capk = 1
           ·have hkt : kt.length = 0 := by omega
            obtain rfl : kt = [] := List.eq_nil_of_length_eq_zero hkt
            subst cc
            have hRd : ReadsRow (fun (x : S45) cs => cs = flat32 x) k45.sz (w2.setCell ⟨g, 1, none⟩ (.int .i64 (wrap64 (o0.f1 + k0.f1)))).drew (some ⟨gk, 0, none⟩) 0 [] := ⟨rfl, by decide, fun h => absurd h (by decide)⟩
            clear y0 y1 z1 zf hk4 hk5 hk7 hk8 hck hc2 hcur hkt
            go_wp2_with ((with_reducible refine gate_builtin (b := .append) (xs := #[.tmp 68, .tmp 69]) rfl ?_); at_builtin; go_must (refine Kd.R_append_rows k45 (Rr := fun x cs => cs = flat32 x) (w0 := (w2.setCell ⟨g, 1, none⟩ (.int .i64 (wrap64 (o0.f1 + k0.f1)))).drew) (w.heap.size + 1) rfl (.tmp 68) (.tmp 69) 22 45 (.agg #[(.int .i64 0), (.int .i64 0), (.string ⟨#[]⟩), (.int .i64 0), (.int .i64 0), (.int .i64 0)]) 56 rfl Tryz.underlying22 info45 rfl (by decide) (by omega) (.slice (some ⟨g, 0, none⟩) (ot.length + 1) cap) ({ o0 with f1 := wrap64 (o0.f1 + k0.f1) } :: ot) [] _ _ _ (fun _ => True) (fun _ => False) rfl rfl hRW hRd (fun x cs e => by rw [e]; exact k32_M x _ _ _) (fun _ h => h.elim) (fun _ _ => trivial) (Below.refl _ _) hszW (by simp; omega) ?_; intro v1 w1 hR1 hb1 hg1 _; obtain ⟨hg3, hA3, hS3⟩ := round_on hg hg2 hA2 hgb hgw hltA hGW hg1 hS'; clear hb1 hg1 hRW hRd hGW hszW hck1))
            go_roundw
            case rel => exact ⟨q + 1, i2, _, _, by go_num, by omega, by omega, hj2, by simp; omega, HK.out, hR1, hg3, hA3, hS3⟩
            case measure => simp [intOf]; omega
           ·have hRd : ReadsRow (fun (x : S45) cs => cs = flat32 x) k45.sz (w2.setCell ⟨g, 1, none⟩ (.int .i64 (wrap64 (o0.f1 + k0.f1)))).drew (some ⟨gk, 6, none⟩) kt.length kt := row_reads (xs := k0 :: kt) hck1 hk8 (by simp; omega) 1
            clear y0 y1 z1 zf hk4 hk5 hk7 hk8 hck hc2 hcur
            go_wp2_with ((with_reducible refine gate_builtin (b := .append) (xs := #[.tmp 68, .tmp 69]) rfl ?_); at_builtin; go_must (refine Kd.R_append_rows k45 (Rr := fun x cs => cs = flat32 x) (w0 := (w2.setCell ⟨g, 1, none⟩ (.int .i64 (wrap64 (o0.f1 + k0.f1)))).drew) (w.heap.size + 1) rfl (.tmp 68) (.tmp 69) 22 45 (.agg #[(.int .i64 0), (.int .i64 0), (.string ⟨#[]⟩), (.int .i64 0), (.int .i64 0), (.int .i64 0)]) 56 rfl Tryz.underlying22 info45 rfl (by decide) (by omega) (.slice (some ⟨g, 0, none⟩) (ot.length + 1) cap) ({ o0 with f1 := wrap64 (o0.f1 + k0.f1) } :: ot) kt _ _ _ (fun _ => True) (fun _ => False) rfl rfl hRW hRd (fun x cs e => by rw [e]; exact k32_M x _ _ _) (fun _ h => h.elim) (fun _ _ => trivial) (Below.refl _ _) hszW (by simp; omega) ?_; intro v1 w1 hR1 hb1 hg1 _; obtain ⟨hg3, hA3, hS3⟩ := round_on hg hg2 hA2 hgb hgw hltA hGW hg1 hS'; clear hb1 hg1 hRW hRd hGW hszW hck1))
            go_roundw
            case rel => exact ⟨q + 1, i2, _, _, by go_num, by omega, by omega, hj2, by simp; omega, HK.out, hR1, hg3, hA3, hS3⟩
            case measure => simp [intOf]; omega
          ·have hk : kidsP (plainF l d false) (m.f0) (m.f1.toNat - (q + 1)) (({ o0 with f1 := wrap64 (o0.f1 + 1) } :: ot) ++ (k0 :: kt)) i2 = some (out, j) := by
            have := hk; simp only [] at this; rw [if_neg c6] at this; exact this
           have HK := Lib.hid hk
           clear hk
           have d1 : (k0.f0 == m.f0) = false := beq_eq_false_iff_ne.2 c6
           clear c6
           go_wp2_with (first | (go_at_call 18; go_must (refine (ih false i' _ i2 wr hi' hk1 hbr hT').mono ?_; rintro e w2 ⟨vk, rfl, hRk, hg2, hj2, hA2⟩; obtain ⟨gk, capk, curk, rfl, hgk, hck, hk4, hk5, hk7, hk8⟩ := R_open hRk (by simp); have y0 := row_cell hck hk8 0 (.int .i64 k0.f0) rfl; have hc2 := (hg2.block g hgw hga).trans hcur; have z1 := row_cell hc2 hct 1 (.int .i64 o0.f1) rfl; have zf := Joins.unfrozen_of_block hc2 1; have hRW := row_put (wrap64 (o0.f1 + 1)) hgb hc2 hlc hcm hcs hct; have hgne : gk ≠ g := (by omega); have hRd : ReadsRow (fun (x : S45) cs => cs = flat32 x) k45.sz (w2.setCell ⟨g, 1, none⟩ (.int .i64 (wrap64 (o0.f1 + 1)))) (some ⟨gk, 0, none⟩) (kt.length + 1) (k0 :: kt) := row_reads (xs := k0 :: kt) ((Below.heap_setCell _ _ _ _ hgne).trans hck) hk8 (by simp; omega) 0; have hsz2 : wr.heap.size ≤ w2.heap.size := hg2.size; have hGW : w2.grownBy (w2.setCell ⟨g, 1, none⟩ (.int .i64 (wrap64 (o0.f1 + 1)))) (some g) := put_grown1 w2 g _; have hszW : w.heap.size + 1 ≤ (w2.setCell ⟨g, 1, none⟩ (.int .i64 (wrap64 (o0.f1 + 1)))).heap.size := (by have := hGW.size; omega))) | ((with_reducible refine gate_builtin (b := .append) (xs := #[.tmp 68, .tmp 69]) rfl ?_); at_builtin; go_must (refine Kd.R_append_rows k45 (Rr := fun x cs => cs = flat32 x) (w0 := (w2.setCell ⟨g, 1, none⟩ (.int .i64 (wrap64 (o0.f1 + 1))))) (w.heap.size + 1) rfl (.tmp 68) (.tmp 69) 22 45 (.agg #[(.int .i64 0), (.int .i64 0), (.string ⟨#[]⟩), (.int .i64 0), (.int .i64 0), (.int .i64 0)]) 56 rfl Tryz.underlying22 info45 rfl (by decide) (by omega) (.slice (some ⟨g, 0, none⟩) (ot.length + 1) cap) ({ o0 with f1 := wrap64 (o0.f1 + 1) } :: ot) (k0 :: kt) _ _ _ (fun _ => True) (fun _ => False) rfl rfl hRW hRd (fun x cs e => by rw [e]; exact k32_M x _ _ _) (fun _ h => h.elim) (fun _ _ => trivial) (Below.refl _ _) hszW (by simp; omega) ?_; intro v1 w1 hR1 hb1 hg1 _; obtain ⟨hg3, hA3, hS3⟩ := round_on hg hg2 hA2 hgb hgw hltA hGW hg1 hS'; clear hb1 hg1 hRW hRd hGW hszW)))
           go_roundw
           case rel => exact ⟨q + 1, i2, _, _, by go_num, by omega, by omega, hj2, by simp; omega, HK.out, hR1, hg3, hA3, hS3⟩
           case measure => simp [intOf]; omega
        ·rw [show m.f1.toNat - q = 0 from by omega, kidsP] at hk
         obtain ⟨rfl, rfl⟩ := Prod.mk.inj (Option.some.inj hk)
         go_wp2
         go_ret
         exact ⟨_, rfl, Kd.R_lower hR (Nat.le_succ _), hg, by first | exact ⟨hi', hA'⟩ | exact hA'⟩
     | true =>
      have h : kidsP (plainF l d true) (3 - m.f0) m.f1.toNat [⟨3 - m.f0, 0, ⟨#[]⟩, 0, ⟨0, 0⟩⟩] (i + 1) = some (out, j) := h
      rcases c3 with c3 | c3
      ·have e1 : (m.f0 == 1) = true := by rw [c3]; rfl
       have e1' : (1 == m.f0) = true := by rw [c3]; rfl
       have e2 : (m.f0 == 2) = false := by rw [c3]; rfl
       have e2' : (2 == m.f0) = false := by rw [c3]; rfl
       clear c3
       go_enter Tryz.func18, Tryz.ntmps18
       go_wp2
       go_loopw [8, 37] (fun vo v wr => ∃ (q i' : Nat) (o0 : S45) (ot : List S45), v = .int .i64 q ∧ q ≤ m.f1.toNat ∧ q + i + 1 ≤ i' ∧ i' ≤ l.length ∧ ot.length + 1 ≤ 2 * (i' - i) ∧ kidsP (plainF l d true) (3 - m.f0) (m.f1.toNat - q) (o0 :: ot) i' = some (out, j) ∧ Kd.R k45 45 wr (w.heap.size + 1) (fun _ => True) vo (o0 :: ot) ∧ w.grownBy wr (some a) ∧ wr.heap[a]? = some (.cells #[.int .i64 (i' : Int)] 3 (0, 0)) ∧ wr.heap[w.heap.size]? = some (.cells #[.int .i64 m.f0, .int .i64 m.f1, .string m.f2, .int .i64 m.f3, .int .i64 m.f4.f0, .int .i64 m.f4.f1] 45 (0, 0)))
        (fun _ v _ => m.f1.toNat - (intOf v).toNat)
       case atStart =>
        have hs : (w.setCell ⟨a, 0, none⟩ (.int .i64 ((i : Int) + 1))).heap.size = w.heap.size := by simp
        refine ⟨0, i + 1, ⟨3 - m.f0, 0, ⟨#[]⟩, 0, ⟨0, 0⟩⟩, [], rfl, Nat.zero_le _, by omega, by omega, by show 0 + 1 ≤ 2 * (i + 1 - i); omega, h, ?_, ?_, ?_, ?_⟩
        ·have := new2 (w.setCell ⟨a, 0, none⟩ (.int .i64 ((i : Int) + 1))) (.cells #[.int .i64 m.f0, .int .i64 m.f1, .string m.f2, .int .i64 m.f3, .int .i64 m.f4.f0, .int .i64 m.f4.f1] 45) (.cells #[.int .i64 (3 - m.f0), .int .i64 0, .string ⟨#[]⟩, .int .i64 0, .int .i64 0, .int .i64 0] 45)
         rw [hs] at this
         exact R_nodes _ _ (w.heap.size + 1) [⟨3 - m.f0, 0, ⟨#[]⟩, 0, ⟨0, 0⟩⟩] (by simp) (by simp) (Nat.le_refl _) this
        ·exact hgr1.trans (World.grownBy_alloc _ _ _)
        ·exact (Below.heap_alloc _ _ _ (lt_of_block hT1.at_)).trans hT1.at_
        ·obtain ⟨_, _, q3⟩ := hafter _ (.int .i64 ((i : Int) + 1)) (.cells #[.int .i64 m.f0, .int .i64 m.f1, .string m.f2, .int .i64 m.f3, .int .i64 m.f4.f0, .int .i64 m.f4.f1] 45) (Below.refl _ _)
         exact (Below.heap_alloc _ _ _ (lt_of_block q3)).trans q3
       case round =>
        obtain ⟨q, i', o0, ot, rfl, hq, hqi, hi', hol, hk, hR, hg, hA', hS'⟩ := hrel
        clear hcA hfA hcN hcA1 hfA1 hne1 hne2 x0 x1 x2 x3 x4 x5 hcT1
        have hq64 : (q : Int) < 64 := by omega
        by_cases c5 : (q : Int) < m.f1
        ·rw [show m.f1.toNat - q = (m.f1.toNat - (q + 1)) + 1 from by omega, kidsP] at hk
         obtain ⟨⟨kid, i2⟩, hk1, hk⟩ := Option.bind_eq_some_iff.mp hk
         have hlen := plainF_len l d true i' kid i2 hk1
         obtain ⟨g, cap, cur, rfl, hgb, hcur, hlc, hcm, hcs, hct⟩ := R_open hR (by simp)
         have hT' := hTon wr i' hg hA'
         have hbr : Below w0.heap.size w0 wr := hb.grown hg hb.size (fun k hk => by cases hk; exact ha)
         have hcT' := cell_of_one hT'.tree
         have hga : some g ≠ some a := by simp; omega
         have hgw : g < wr.heap.size := lt_of_block hcur
         cases kid with
         | nil => cases hk
         | cons k0 kt =>
          have hkl : kt.length + 1 ≤ 2 * (i2 - i') := hlen.2
          have hlc' : ot.length + 1 ≤ cap := hlc
          have hlt2 := hlen.1
          clear hlen
          by_cases c6 : k0.f0 = 3 - m.f0
          ·have hk : kidsP (plainF l d true) (3 - m.f0) (m.f1.toNat - (q + 1)) (({ o0 with f1 := wrap64 (o0.f1 + k0.f1) } :: ot) ++ kt) i2 = some (out, j) := by
            have := hk; simp only [] at this; rw [if_pos c6] at this; exact this
           have HK := Lib.hid hk
           clear hk
           have d1 : (k0.f0 == 3 - m.f0) = true := beq_iff_eq.2 c6
           clear c6
           go_wp2_with (go_at_call 18; go_must (refine (ih true i' _ i2 wr hi' hk1 hbr hT').mono ?_; rintro e w2 ⟨vk, rfl, hRk, hg2, hj2, hA2⟩; obtain ⟨gk, capk, curk, rfl, hgk, hck, hk4, hk5, hk7, hk8⟩ := R_open hRk (by simp); have y0 := row_cell hck hk8 0 (.int .i64 k0.f0) rfl; have y1 := row_cell hck hk8 1 (.int .i64 k0.f1) rfl; have hc2 := (hg2.block g hgw hga).trans hcur; have z1 := row_cell hc2 hct 1 (.int .i64 o0.f1) rfl; have zf := Joins.unfrozen_of_block hc2 1))
           have hk4' : kt.length + 1 ≤ capk := hk4
           have hRW := Kd.R_drew (row_put (wrap64 (o0.f1 + k0.f1)) hgb hc2 hlc hcm hcs hct)
           have hgne : gk ≠ g := by omega
           have hck1 : (w2.setCell ⟨g, 1, none⟩ (.int .i64 (wrap64 (o0.f1 + k0.f1)))).drew.heap[gk]? = some (.cells curk 45 (0, 0)) := (Below.heap_setCell _ _ _ _ hgne).trans hck
           have hsz2 : wr.heap.size ≤ w2.heap.size := hg2.size
           have hGW : w2.grownBy (w2.setCell ⟨g, 1, none⟩ (.int .i64 (wrap64 (o0.f1 + k0.f1)))).drew (some g) := put_grown w2 g _
           have hszW : w.heap.size + 1 ≤ (w2.setCell ⟨g, 1, none⟩ (.int .i64 (wrap64 (o0.f1 + k0.f1)))).drew.heap.size := by have := hGW.size; omega
           go_region
           by_cases cc : capk = 1
           ·have hkt : kt.length = 0 := by omega
            obtain rfl : kt = [] := List.eq_nil_of_length_eq_zero hkt
            subst cc
            have hRd : ReadsRow (fun (x : S45) cs => cs = flat32 x) k45.sz (w2.setCell ⟨g, 1, none⟩ (.int .i64 (wrap64 (o0.f1 + k0.f1)))).drew (some ⟨gk, 0, none⟩) 0 [] := ⟨rfl, by decide, fun h => absurd h (by decide)⟩
            clear y0 y1 z1 zf hk4 hk5 hk7 hk8 hck hc2 hcur hkt
            go_wp2_with ((with_reducible refine gate_builtin (b := .append) (xs := #[.tmp 68, .tmp 69]) rfl ?_); at_builtin; go_must (refine Kd.R_append_rows k45 (Rr := fun x cs => cs = flat32 x) (w0 := (w2.setCell ⟨g, 1, none⟩ (.int .i64 (wrap64 (o0.f1 + k0.f1)))).drew) (w.heap.size + 1) rfl (.tmp 68) (.tmp 69) 22 45 (.agg #[(.int .i64 0), (.int .i64 0), (.string ⟨#[]⟩), (.int .i64 0), (.int .i64 0), (.int .i64 0)]) 56 rfl Tryz.underlying22 info45 rfl (by decide) (by omega) (.slice (some ⟨g, 0, none⟩) (ot.length + 1) cap) ({ o0 with f1 := wrap64 (o0.f1 + k0.f1) } :: ot) [] _ _ _ (fun _ => True) (fun _ => False) rfl rfl hRW hRd (fun x cs e => by rw [e]; exact k32_M x _ _ _) (fun _ h => h.elim) (fun _ _ => trivial) (Below.refl _ _) hszW (by simp; omega) ?_; intro v1 w1 hR1 hb1 hg1 _; obtain ⟨hg3, hA3, hS3⟩ := round_on hg hg2 hA2 hgb hgw hltA hGW hg1 hS'; clear hb1 hg1 hRW hRd hGW hszW hck1))
            go_roundw
            case rel => exact ⟨q + 1, i2, _, _, by go_num, by omega, by omega, hj2, by simp; omega, HK.out, hR1, hg3, hA3, hS3⟩
            case measure => simp [intOf]; omega
           ·have hRd : ReadsRow (fun (x : S45) cs => cs = flat32 x) k45.sz (w2.setCell ⟨g, 1, none⟩ (.int .i64 (wrap64 (o0.f1 + k0.f1)))).drew (some ⟨gk, 6, none⟩) kt.length kt := row_reads (xs := k0 :: kt) hck1 hk8 (by simp; omega) 1
            clear y0 y1 z1 zf hk4 hk5 hk7 hk8 hck hc2 hcur
            go_wp2_with ((with_reducible refine gate_builtin (b := .append) (xs := #[.tmp 68, .tmp 69]) rfl ?_); at_builtin; go_must (refine Kd.R_append_rows k45 (Rr := fun x cs => cs = flat32 x) (w0 := (w2.setCell ⟨g, 1, none⟩ (.int .i64 (wrap64 (o0.f1 + k0.f1)))).drew) (w.heap.size + 1) rfl (.tmp 68) (.tmp 69) 22 45 (.agg #[(.int .i64 0), (.int .i64 0), (.string ⟨#[]⟩), (.int .i64 0), (.int .i64 0), (.int .i64 0)]) 56 rfl Tryz.underlying22 info45 rfl (by decide) (by omega) (.slice (some ⟨g, 0, none⟩) (ot.length + 1) cap) ({ o0 with f1 := wrap64 (o0.f1 + k0.f1) } :: ot) kt _ _ _ (fun _ => True) (fun _ => False) rfl rfl hRW hRd (fun x cs e => by rw [e]; exact k32_M x _ _ _) (fun _ h => h.elim) (fun _ _ => trivial) (Below.refl _ _) hszW (by simp; omega) ?_; intro v1 w1 hR1 hb1 hg1 _; obtain ⟨hg3, hA3, hS3⟩ := round_on hg hg2 hA2 hgb hgw hltA hGW hg1 hS'; clear hb1 hg1 hRW hRd hGW hszW hck1))
            go_roundw
            case rel => exact ⟨q + 1, i2, _, _, by go_num, by omega, by omega, hj2, by simp; omega, HK.out, hR1, hg3, hA3, hS3⟩
            case measure => simp [intOf]; omega
          ·have hk : kidsP (plainF l d true) (3 - m.f0) (m.f1.toNat - (q + 1)) (({ o0 with f1 := wrap64 (o0.f1 + 1) } :: ot) ++ (k0 :: kt)) i2 = some (out, j) := by
            have := hk; simp only [] at this; rw [if_neg c6] at this; exact this
           have HK := Lib.hid hk
           clear hk
           have d1 : (k0.f0 == 3 - m.f0) = false := beq_eq_false_iff_ne.2 c6
           clear c6
           go_wp2_with (first | (go_at_call 18; go_must (refine (ih true i' _ i2 wr hi' hk1 hbr hT').mono ?_; rintro e w2 ⟨vk, rfl, hRk, hg2, hj2, hA2⟩; obtain ⟨gk, capk, curk, rfl, hgk, hck, hk4, hk5, hk7, hk8⟩ := R_open hRk (by simp); have y0 := row_cell hck hk8 0 (.int .i64 k0.f0) rfl; have hc2 := (hg2.block g hgw hga).trans hcur; have z1 := row_cell hc2 hct 1 (.int .i64 o0.f1) rfl; have zf := Joins.unfrozen_of_block hc2 1; have hRW := row_put (wrap64 (o0.f1 + 1)) hgb hc2 hlc hcm hcs hct; have hgne : gk ≠ g := (by omega); have hRd : ReadsRow (fun (x : S45) cs => cs = flat32 x) k45.sz (w2.setCell ⟨g, 1, none⟩ (.int .i64 (wrap64 (o0.f1 + 1)))) (some ⟨gk, 0, none⟩) (kt.length + 1) (k0 :: kt) := row_reads (xs := k0 :: kt) ((Below.heap_setCell _ _ _ _ hgne).trans hck) hk8 (by simp; omega) 0; have hsz2 : wr.heap.size ≤ w2.heap.size := hg2.size; have hGW : w2.grownBy (w2.setCell ⟨g, 1, none⟩ (.int .i64 (wrap64 (o0.f1 + 1)))) (some g) := put_grown1 w2 g _; have hszW : w.heap.size + 1 ≤ (w2.setCell ⟨g, 1, none⟩ (.int .i64 (wrap64 (o0.f1 + 1)))).heap.size := (by have := hGW.size; omega))) | ((with_reducible refine gate_builtin (b := .append) (xs := #[.tmp 68, .tmp 69]) rfl ?_); at_builtin; go_must (refine Kd.R_append_rows k45 (Rr := fun x cs => cs = flat32 x) (w0 := (w2.setCell ⟨g, 1, none⟩ (.int .i64 (wrap64 (o0.f1 + 1))))) (w.heap.size + 1) rfl (.tmp 68) (.tmp 69) 22 45 (.agg #[(.int .i64 0), (.int .i64 0), (.string ⟨#[]⟩), (.int .i64 0), (.int .i64 0), (.int .i64 0)]) 56 rfl Tryz.underlying22 info45 rfl (by decide) (by omega) (.slice (some ⟨g, 0, none⟩) (ot.length + 1) cap) ({ o0 with f1 := wrap64 (o0.f1 + 1) } :: ot) (k0 :: kt) _ _ _ (fun _ => True) (fun _ => False) rfl rfl hRW hRd (fun x cs e => by rw [e]; exact k32_M x _ _ _) (fun _ h => h.elim) (fun _ _ => trivial) (Below.refl _ _) hszW (by simp; omega) ?_; intro v1 w1 hR1 hb1 hg1 _; obtain ⟨hg3, hA3, hS3⟩ := round_on hg hg2 hA2 hgb hgw hltA hGW hg1 hS'; clear hb1 hg1 hRW hRd hGW hszW)))
           go_roundw
           case rel => exact ⟨q + 1, i2, _, _, by go_num, by omega, by omega, hj2, by simp; omega, HK.out, hR1, hg3, hA3, hS3⟩
           case measure => simp [intOf]; omega
        ·rw [show m.f1.toNat - q = 0 from by omega, kidsP] at hk
         obtain ⟨rfl, rfl⟩ := Prod.mk.inj (Option.some.inj hk)
         go_wp2
         go_ret
         exact ⟨_, rfl, Kd.R_lower hR (Nat.le_succ _), hg, by first | exact ⟨hi', hA'⟩ | exact hA'⟩
      ·have e1 : (m.f0 == 1) = false := by rw [c3]; rfl
       have e1' : (1 == m.f0) = false := by rw [c3]; rfl
       have e2 : (m.f0 == 2) = true := by rw [c3]; rfl
       have e2' : (2 == m.f0) = true := by rw [c3]; rfl
       clear c3
       go_enter Tryz.func18, Tryz.ntmps18
       go_wp2
       go_loopw [8, 37] (fun vo v wr => ∃ (q i' : Nat) (o0 : S45) (ot : List S45), v = .int .i64 q ∧ q ≤ m.f1.toNat ∧ q + i + 1 ≤ i' ∧ i' ≤ l.length ∧ ot.length + 1 ≤ 2 * (i' - i) ∧ kidsP (plainF l d true) (3 - m.f0) (m.f1.toNat - q) (o0 :: ot) i' = some (out, j) ∧ Kd.R k45 45 wr (w.heap.size + 1) (fun _ => True) vo (o0 :: ot) ∧ w.grownBy wr (some a) ∧ wr.heap[a]? = some (.cells #[.int .i64 (i' : Int)] 3 (0, 0)) ∧ wr.heap[w.heap.size]? = some (.cells #[.int .i64 m.f0, .int .i64 m.f1, .string m.f2, .int .i64 m.f3, .int .i64 m.f4.f0, .int .i64 m.f4.f1] 45 (0, 0)))
        (fun _ v _ => m.f1.toNat - (intOf v).toNat)
       case atStart =>
        have hs : (w.setCell ⟨a, 0, none⟩ (.int .i64 ((i : Int) + 1))).heap.size = w.heap.size := by simp
        refine ⟨0, i + 1, ⟨3 - m.f0, 0, ⟨#[]⟩, 0, ⟨0, 0⟩⟩, [], rfl, Nat.zero_le _, by omega, by omega, by show 0 + 1 ≤ 2 * (i + 1 - i); omega, h, ?_, ?_, ?_, ?_⟩
        ·have := new2 (w.setCell ⟨a, 0, none⟩ (.int .i64 ((i : Int) + 1))) (.cells #[.int .i64 m.f0, .int .i64 m.f1, .string m.f2, .int .i64 m.f3, .int .i64 m.f4.f0, .int .i64 m.f4.f1] 45) (.cells #[.int .i64 (3 - m.f0), .int .i64 0, .string ⟨#[]⟩, .int .i64 0, .int .i64 0, .int .i64 0] 45)
         rw [hs] at this
         exact R_nodes _ _ (w.heap.size + 1) [⟨3 - m.f0, 0, ⟨#[]⟩, 0, ⟨0, 0⟩⟩] (by simp) (by simp) (Nat.le_refl _) this
        ·exact hgr1.trans (World.grownBy_alloc _ _ _)
        ·exact (Below.heap_alloc _ _ _ (lt_of_block hT1.at_)).trans hT1.at_
        ·obtain ⟨_, _, q3⟩ := hafter _ (.int .i64 ((i : Int) + 1)) (.cells #[.int .i64 m.f0, .int .i64 m.f1, .string m.f2, .int .i64 m.f3, .int .i64 m.f4.f0, .int .i64 m.f4.f1] 45) (Below.refl _ _)
         exact (Below.heap_alloc _ _ _ (lt_of_block q3)).trans q3
       case round =>
        obtain ⟨q, i', o0, ot, rfl, hq, hqi, hi', hol, hk, hR, hg, hA', hS'⟩ := hrel
        clear hcA hfA hcN hcA1 hfA1 hne1 hne2 x0 x1 x2 x3 x4 x5 hcT1
        have hq64 : (q : Int) < 64 := by omega
        by_cases c5 : (q : Int) < m.f1
        ·rw [show m.f1.toNat - q = (m.f1.toNat - (q + 1)) + 1 from by omega, kidsP] at hk
         obtain ⟨⟨kid, i2⟩, hk1, hk⟩ := Option.bind_eq_some_iff.mp hk
         have hlen := plainF_len l d true i' kid i2 hk1
         obtain ⟨g, cap, cur, rfl, hgb, hcur, hlc, hcm, hcs, hct⟩ := R_open hR (by simp)
         have hT' := hTon wr i' hg hA'
         have hbr : Below w0.heap.size w0 wr := hb.grown hg hb.size (fun k hk => by cases hk; exact ha)
         have hcT' := cell_of_one hT'.tree
         have hga : some g ≠ some a := by simp; omega
         have hgw : g < wr.heap.size := lt_of_block hcur
         cases kid with
         | nil => cases hk
         | cons k0 kt =>
          have hkl : kt.length + 1 ≤ 2 * (i2 - i') := hlen.2
          have hlc' : ot.length + 1 ≤ cap := hlc
          have hlt2 := hlen.1
          clear hlen
          by_cases c6 : k0.f0 = 3 - m.f0
          ·have hk : kidsP (plainF l d true) (3 - m.f0) (m.f1.toNat - (q + 1)) (({ o0 with f1 := wrap64 (o0.f1 + k0.f1) } :: ot) ++ kt) i2 = some (out, j) := by
            have := hk; simp only [] at this; rw [if_pos c6] at this; exact this
           have HK := Lib.hid hk
           clear hk
           have d1 : (k0.f0 == 3 - m.f0) = true := beq_iff_eq.2 c6
           clear c6
           go_wp2_with (go_at_call 18; go_must (refine (ih true i' _ i2 wr hi' hk1 hbr hT').mono ?_; rintro e w2 ⟨vk, rfl, hRk, hg2, hj2, hA2⟩; obtain ⟨gk, capk, curk, rfl, hgk, hck, hk4, hk5, hk7, hk8⟩ := R_open hRk (by simp); have y0 := row_cell hck hk8 0 (.int .i64 k0.f0) rfl; have y1 := row_cell hck hk8 1 (.int .i64 k0.f1) rfl; have hc2 := (hg2.block g hgw hga).trans hcur; have z1 := row_cell hc2 hct 1 (.int .i64 o0.f1) rfl; have zf := Joins.unfrozen_of_block hc2 1))
           have hk4' : kt.length + 1 ≤ capk := hk4
           have hRW := Kd.R_drew (row_put (wrap64 (o0.f1 + k0.f1)) hgb hc2 hlc hcm hcs hct)
           have hgne : gk ≠ g := by omega
           have hck1 : (w2.setCell ⟨g, 1, none⟩ (.int .i64 (wrap64 (o0.f1 + k0.f1)))).drew.heap[gk]? = some (.cells curk 45 (0, 0)) := (Below.heap_setCell _ _ _ _ hgne).trans hck
           have hsz2 : wr.heap.size ≤ w2.heap.size := hg2.size
           have hGW : w2.grownBy (w2.setCell ⟨g, 1, none⟩ (.int .i64 (wrap64 (o0.f1 + k0.f1)))).drew (some g) := put_grown w2 g _
           have hszW : w.heap.size + 1 ≤ (w2.setCell ⟨g, 1, none⟩ (.int .i64 (wrap64 (o0.f1 + k0.f1)))).drew.heap.size := by have := hGW.size; omega
           go_region
           by_cases cc : capk = 1
           ·have hkt : kt.length = 0 := by omega
            obtain rfl : kt = [] := List.eq_nil_of_length_eq_zero hkt
            subst cc
            have hRd : ReadsRow (fun (x : S45) cs => cs = flat32 x) k45.sz (w2.setCell ⟨g, 1, none⟩ (.int .i64 (wrap64 (o0.f1 + k0.f1)))).drew (some ⟨gk, 0, none⟩) 0 [] := ⟨rfl, by decide, fun h => absurd h (by decide)⟩
            clear y0 y1 z1 zf hk4 hk5 hk7 hk8 hck hc2 hcur hkt
            go_wp2_with ((with_reducible refine gate_builtin (b := .append) (xs := #[.tmp 68, .tmp 69]) rfl ?_); at_builtin; go_must (refine Kd.R_append_rows k45 (Rr := fun x cs => cs = flat32 x) (w0 := (w2.setCell ⟨g, 1, none⟩ (.int .i64 (wrap64 (o0.f1 + k0.f1)))).drew) (w.heap.size + 1) rfl (.tmp 68) (.tmp 69) 22 45 (.agg #[(.int .i64 0), (.int .i64 0), (.string ⟨#[]⟩), (.int .i64 0), (.int .i64 0), (.int .i64 0)]) 56 rfl Tryz.underlying22 info45 rfl (by decide) (by omega) (.slice (some ⟨g, 0, none⟩) (ot.length + 1) cap) ({ o0 with f1 := wrap64 (o0.f1 + k0.f1) } :: ot) [] _ _ _ (fun _ => True) (fun _ => False) rfl rfl hRW hRd (fun x cs e => by rw [e]; exact k32_M x _ _ _) (fun _ h => h.elim) (fun _ _ => trivial) (Below.refl _ _) hszW (by simp; omega) ?_; intro v1 w1 hR1 hb1 hg1 _; obtain ⟨hg3, hA3, hS3⟩ := round_on hg hg2 hA2 hgb hgw hltA hGW hg1 hS'; clear hb1 hg1 hRW hRd hGW hszW hck1))
            go_roundw
            case rel => exact ⟨q + 1, i2, _, _, by go_num, by omega, by omega, hj2, by simp; omega, HK.out, hR1, hg3, hA3, hS3⟩
            case measure => simp [intOf]; omega
           ·have hRd : ReadsRow (fun (x : S45) cs => cs = flat32 x) k45.sz (w2.setCell ⟨g, 1, none⟩ (.int .i64 (wrap64 (o0.f1 + k0.f1)))).drew (some ⟨gk, 6, none⟩) kt.length kt := row_reads (xs := k0 :: kt) hck1 hk8 (by simp; omega) 1
            clear y0 y1 z1 zf hk4 hk5 hk7 hk8 hck hc2 hcur
            go_wp2_with ((with_reducible refine gate_builtin (b := .append) (xs := #[.tmp 68, .tmp 69]) rfl ?_); at_builtin; go_must (refine Kd.R_append_rows k45 (Rr := fun x cs => cs = flat32 x) (w0 := (w2.setCell ⟨g, 1, none⟩ (.int .i64 (wrap64 (o0.f1 + k0.f1)))).drew) (w.heap.size + 1) rfl (.tmp 68) (.tmp 69) 22 45 (.agg #[(.int .i64 0), (.int .i64 0), (.string ⟨#[]⟩), (.int .i64 0), (.int .i64 0), (.int .i64 0)]) 56 rfl Tryz.underlying22 info45 rfl (by decide) (by omega) (.slice (some ⟨g, 0, none⟩) (ot.length + 1) cap) ({ o0 with f1 := wrap64 (o0.f1 + k0.f1) } :: ot) kt _ _ _ (fun _ => True) (fun _ => False) rfl rfl hRW hRd (fun x cs e => by rw [e]; exact k32_M x _ _ _) (fun _ h => h.elim) (fun _ _ => trivial) (Below.refl _ _) hszW (by simp; omega) ?_; intro v1 w1 hR1 hb1 hg1 _; obtain ⟨hg3, hA3, hS3⟩ := round_on hg hg2 hA2 hgb hgw hltA hGW hg1 hS'; clear hb1 hg1 hRW hRd hGW hszW hck1))
            go_roundw
            case rel => exact ⟨q + 1, i2, _, _, by go_num, by omega, by omega, hj2, by simp; omega, HK.out, hR1, hg3, hA3, hS3⟩
            case measure => simp [intOf]; omega
          ·have hk : kidsP (plainF l d true) (3 - m.f0) (m.f1.toNat - (q + 1)) (({ o0 with f1 := wrap64 (o0.f1 + 1) } :: ot) ++ (k0 :: kt)) i2 = some (out, j) := by
            have := hk; simp only [] at this; rw [if_neg c6] at this; exact this
           have HK := Lib.hid hk
           clear hk
           have d1 : (k0.f0 == 3 - m.f0) = false := beq_eq_false_iff_ne.2 c6
           clear c6
           go_wp2_with (first | (go_at_call 18; go_must (refine (ih true i' _ i2 wr hi' hk1 hbr hT').mono ?_; rintro e w2 ⟨vk, rfl, hRk, hg2, hj2, hA2⟩; obtain ⟨gk, capk, curk, rfl, hgk, hck, hk4, hk5, hk7, hk8⟩ := R_open hRk (by simp); have y0 := row_cell hck hk8 0 (.int .i64 k0.f0) rfl; have hc2 := (hg2.block g hgw hga).trans hcur; have z1 := row_cell hc2 hct 1 (.int .i64 o0.f1) rfl; have zf := Joins.unfrozen_of_block hc2 1; have hRW := row_put (wrap64 (o0.f1 + 1)) hgb hc2 hlc hcm hcs hct; have hgne : gk ≠ g := (by omega); have hRd : ReadsRow (fun (x : S45) cs => cs = flat32 x) k45.sz (w2.setCell ⟨g, 1, none⟩ (.int .i64 (wrap64 (o0.f1 + 1)))) (some ⟨gk, 0, none⟩) (kt.length + 1) (k0 :: kt) := row_reads (xs := k0 :: kt) ((Below.heap_setCell _ _ _ _ hgne).trans hck) hk8 (by simp; omega) 0; have hsz2 : wr.heap.size ≤ w2.heap.size := hg2.size; have hGW : w2.grownBy (w2.setCell ⟨g, 1, none⟩ (.int .i64 (wrap64 (o0.f1 + 1)))) (some g) := put_grown1 w2 g _; have hszW : w.heap.size + 1 ≤ (w2.setCell ⟨g, 1, none⟩ (.int .i64 (wrap64 (o0.f1 + 1)))).heap.size := (by have := hGW.size; omega))) | ((with_reducible refine gate_builtin (b := .append) (xs := #[.tmp 68, .tmp 69]) rfl ?_); at_builtin; go_must (refine Kd.R_append_rows k45 (Rr := fun x cs => cs = flat32 x) (w0 := (w2.setCell ⟨g, 1, none⟩ (.int .i64 (wrap64 (o0.f1 + 1))))) (w.heap.size + 1) rfl (.tmp 68) (.tmp 69) 22 45 (.agg #[(.int .i64 0), (.int .i64 0), (.string ⟨#[]⟩), (.int .i64 0), (.int .i64 0), (.int .i64 0)]) 56 rfl Tryz.underlying22 info45 rfl (by decide) (by omega) (.slice (some ⟨g, 0, none⟩) (ot.length + 1) cap) ({ o0 with f1 := wrap64 (o0.f1 + 1) } :: ot) (k0 :: kt) _ _ _ (fun _ => True) (fun _ => False) rfl rfl hRW hRd (fun x cs e => by rw [e]; exact k32_M x _ _ _) (fun _ h => h.elim) (fun _ _ => trivial) (Below.refl _ _) hszW (by simp; omega) ?_; intro v1 w1 hR1 hb1 hg1 _; obtain ⟨hg3, hA3, hS3⟩ := round_on hg hg2 hA2 hgb hgw hltA hGW hg1 hS'; clear hb1 hg1 hRW hRd hGW hszW)))
           go_roundw
           case rel => exact ⟨q + 1, i2, _, _, by go_num, by omega, by omega, hj2, by simp; omega, HK.out, hR1, hg3, hA3, hS3⟩
           case measure => simp [intOf]; omega
        ·rw [show m.f1.toNat - q = 0 from by omega, kidsP] at hk
         obtain ⟨rfl, rfl⟩ := Prod.mk.inj (Option.some.inj hk)
         go_wp2
         go_ret
         exact ⟨_, rfl, Kd.R_lower hR (Nat.le_succ _), hg, by first | exact ⟨hi', hA'⟩ | exact hA'⟩
    ·rw [if_neg c3] at h
     have e1 : (m.f0 == 1) = false := beq_eq_false_iff_ne.2 (fun e => c3 (Or.inl e))
     have e1' : (1 == m.f0) = false := beq_eq_false_iff_ne.2 (fun e => c3 (Or.inl e.symm))
     have e2 : (m.f0 == 2) = false := beq_eq_false_iff_ne.2 (fun e => c3 (Or.inr e))
     have e2' : (2 == m.f0) = false := beq_eq_false_iff_ne.2 (fun e => c3 (Or.inr e.symm))
     clear c3
     obtain ⟨o, ho, h⟩ := Option.map_eq_some_iff.mp h
     obtain ⟨rfl, rfl⟩ := Prod.mk.inj h
     go_enter Tryz.func18, Tryz.ntmps18
     go_wp2_with (go_at_call 19; go_must (refine (traits_bare.calls m.f0 m.f1 m.f2 m.f3 m.f4.f0 m.f4.f1 nt _ _ ho).mono ?_; rintro e w2 ⟨v, rfl, hR, hb2⟩; obtain ⟨hg2, hA2, _⟩ := hafter _ _ _ hb2))
     go_ret
     exact ⟨v, rfl, Kd.R_lower hR hgr1.size, hg2, by first | exact ⟨c1, by simpa using hA2⟩ | simpa using hA2⟩
  ·rw [if_neg c1] at h; cases h
theorem traits_Plain.calls (k : Nat) (A0 : Option Addr) (c0 : Nat) (l0 : List S45) (r1 : List S45) (r2 : Int) (w : World) (hr0 : Kd.C k45 w A0 l0.length l0) (hc0 : l0.length ≤ c0) (h : traits_Plain.f k l0 = some (r1, r2)) (hG : GT w) :
  Calls Tryz.prog 6 #[.slice A0 l0.length c0] w fun e w' => ∃ v0_ : Value, e = .returned (.tuple #[v0_, .int .i64 r2]) ∧ Kd.R k45 45 w' w.heap.size (fun _ => True) v0_ r1 ∧ Below w.heap.size w w' := by
 rw [traits_Plain.f] at h
 obtain ⟨e0, he0, h⟩ := Option.bind_eq_some_iff.mp h
 have hbx : ∀ o, Below w.heap.size w (w.alloc o) := fun o => (Below.refl _ _).alloc (Nat.le_refl _) o
 have hCk := fun o => traits_Check.calls k A0 c0 l0 e0 (w.alloc o) (Kd.C_below hr0 (hbx o)) hc0 he0 (hG.at (hbx o))
 have hno : ∀ W : World, Kd.R k45 45 W w.heap.size (fun _ => True) (.slice none 0 0) ([] : List S45) := fun W => Kd.R_nil _ _ _ _ _
 have hnod : ∀ (w' : World) (v : Value), Below (w.alloc (.cells #[v] 22)).heap.size (w.alloc (.cells #[v] 22)) w' → w'.cell? ⟨w.heap.size, 0, none⟩ = some v := fun w' v hb => cell_of_one ((hb.block w.heap.size (by simp)).trans (MapKept.heap_alloc w _).1)
 by_cases c1 : e0 = 0
 ·rw [if_pos c1] at h
  subst c1
  by_cases c2 : l0.length = 0
  ·rw [if_pos c2] at h
   obtain ⟨rfl, rfl⟩ := Prod.mk.inj (Option.some.inj h)
   have hCk0 : ∀ o, Calls Tryz.prog 14 #[.slice A0 0 c0] (w.alloc o) fun e w' => e = .returned (.int .i64 0) ∧ Below (w.alloc o).heap.size (w.alloc o) w' := fun o => by have := hCk o; rwa [c2] at this
   clear hCk
   obtain rfl : l0 = [] := List.eq_nil_of_length_eq_zero c2
   go_enter Tryz.func6, Tryz.ntmps6
   go_wp2_with (go_at_call 14; go_must (refine (hCk0 _).mono ?_; rintro e w' ⟨rfl, hb2⟩; have hcN := hnod w' _ hb2))
   go_ret2
   exact ⟨_, rfl, hno _, (hbx _).trans (hb2.mono (by simp))⟩
  ·rw [if_neg c2] at h
   have hl : l0.length ≤ 64 := by
    rw [traits_Check.f, if_neg c2] at he0
    by_cases c3 : 64 < l0.length
    ·rw [if_pos c3] at he0; cases he0
    ·omega
   obtain ⟨⟨out, j⟩, ht, h⟩ := Option.bind_eq_some_iff.mp h
   have c2z : ¬ (l0.length : Int) = 0 := by omega
   have c2y : ((l0.length : Int) == 0) = false := beq_eq_false_iff_ne.2 c2z
   clear c2z
   have hmf : ∀ (fn : Fn) (first cap : Array Value) (w : World), (Instr.makeFunc fn first cap).run Tryz.prog w = .ok (.func fn first cap) w := fun _ _ _ _ => rfl
   have hsf := fun (a : Addr) (c : Array Value) (w : World) => run_store Tryz.prog w a (.func (.func 18) #[] c) .plain rfl
   have hcall : ∀ w', Below (w.alloc (.cells #[.slice A0 l0.length c0] 22)).heap.size (w.alloc (.cells #[.slice A0 l0.length c0] 22)) w' →
     Calls Tryz.prog 18 #[.bool false, .pointer (some ⟨w.heap.size, 0, none⟩), .pointer (some ⟨w'.heap.size, 0, none⟩), .pointer (some ⟨w'.heap.size + 1, 0, none⟩)] ((w'.alloc (.cells #[.int .i64 0] 3)).alloc (.cells #[.func (.func 18) #[] #[.pointer (some ⟨w.heap.size, 0, none⟩), .pointer (some ⟨w'.heap.size, 0, none⟩), .pointer (some ⟨w'.heap.size + 1, 0, none⟩)]] 47)) fun e w2 =>
      ∃ A c, e = .returned (.slice A out.length c) ∧ Kd.R k45 45 w2 w.heap.size (fun _ => True) (.slice A out.length c) out ∧ Below w.heap.size w w2 := fun w' hb2 => by
    have hs1 : (w.alloc (.cells #[.slice A0 l0.length c0] 22)).heap.size = w.heap.size + 1 := by simp
    have hsz : w.heap.size + 1 ≤ w'.heap.size := by have := hb2.size; omega
    have hB : Below w.heap.size w w' := (hbx _).trans (hb2.mono (by omega))
    have hB3 : Below w.heap.size w ((w'.alloc (.cells #[.int .i64 0] 3)).alloc (.cells #[.func (.func 18) #[] #[.pointer (some ⟨w.heap.size, 0, none⟩), .pointer (some ⟨w'.heap.size, 0, none⟩), .pointer (some ⟨w'.heap.size + 1, 0, none⟩)]] 47)) :=
     (hB.alloc (by omega) _).alloc (by simp; omega) _
    have hS3 : w.heap.size ≤ ((w'.alloc (.cells #[.int .i64 0] 3)).alloc (.cells #[.func (.func 18) #[] #[.pointer (some ⟨w.heap.size, 0, none⟩), .pointer (some ⟨w'.heap.size, 0, none⟩), .pointer (some ⟨w'.heap.size + 1, 0, none⟩)]] 47)).heap.size := by simp; omega
    have hn : w'.heap[w.heap.size]? = some (.cells #[.slice A0 l0.length c0] 22 (0, 0)) := (hb2.block w.heap.size (by omega)).trans (MapKept.heap_alloc w _).1
    have hsa : (w'.alloc (.cells #[.int .i64 0] 3)).heap.size = w'.heap.size + 1 := by simp
    refine (plain_calls w l0 A0 c0 hr0 hl w.heap.size w'.heap.size (w'.heap.size + 1) (by omega) 20 false 0 out j _ (Nat.zero_le _) ht hB3 ⟨?_, ?_, new2 _ _ _⟩).mono ?_
    ·exact (Below.heap_alloc _ _ _ (by omega)).trans (MapKept.heap_alloc w' _).1
    ·exact (Below.heap_alloc _ _ _ (by omega)).trans ((Below.heap_alloc _ _ _ (by omega)).trans hn)
    ·rintro e w2 ⟨v, rfl, hR, hg, _, _⟩
     obtain ⟨A, c, rfl⟩ := Kd.R_slice hR
     exact ⟨A, c, rfl, Kd.R_lower hR hS3, hB3.grown hg hB3.size (fun k hk => by cases hk; omega)⟩
   clear hr0
   by_cases c4 : 64 < out.length
   ·rw [if_pos c4] at h
    obtain ⟨rfl, rfl⟩ := Prod.mk.inj (Option.some.inj h)
    have c4z : 64 < (out.length : Int) := by omega
    clear c4
    go_enter Tryz.func6, Tryz.ntmps6
    go_wp2_with (first | (go_at_call 14; go_must (refine (hCk _).mono ?_; rintro e w' ⟨rfl, hb2⟩; have hcN := hnod w' _ hb2)) | (go_at_call 18; go_must (refine (hcall _ hb2).mono ?_; rintro e w2 ⟨A, c, rfl, hR, hB2⟩)))
    go_ret2
    exact ⟨_, rfl, hno _, hB2⟩
   ·rw [if_neg c4] at h
    obtain ⟨rfl, rfl⟩ := Prod.mk.inj (Option.some.inj h)
    have c4z : ¬ 64 < (out.length : Int) := by omega
    clear c4
    go_enter Tryz.func6, Tryz.ntmps6
    go_wp2_with (first | (go_at_call 14; go_must (refine (hCk _).mono ?_; rintro e w' ⟨rfl, hb2⟩; have hcN := hnod w' _ hb2)) | (go_at_call 18; go_must (refine (hcall _ hb2).mono ?_; rintro e w2 ⟨A, c, rfl, hR, hB2⟩)))
    go_ret2
    exact ⟨_, rfl, hR, hB2⟩
 ·rw [if_neg c1] at h
  obtain ⟨rfl, rfl⟩ := Prod.mk.inj (Option.some.inj h)
  have c1z : (e0 == 0) = false := beq_eq_false_iff_ne.2 c1
  have c1y : (e0 != 0) = true := bne_iff_ne.2 c1
  go_enter Tryz.func6, Tryz.ntmps6
  go_wp2_with (go_at_call 14; go_must (refine (hCk _).mono ?_; rintro e w' ⟨rfl, hb2⟩))
  go_ret2
  exact ⟨_, rfl, hno _, (hbx _).trans (hb2.mono (by simp))⟩
end Go.Proofs.YtcljnjnlafkieaaGreatDoorR.PPLA
