/- The walk of TraitTables: a text put under an Or or an And with another one. -/
import Derived.Test.YtlboolhjfffppaaDoorPTBLx13
import Derived.Test.YtlboolhjfffppaaDoorPTBLx4
import Derived.Test.YtlboolhjfffppaaDoorPTBLx14
import Derived.RegionTactic
import Derived.BigRegion
import Derived.Deep.RegionHeld3
import Derived.Deep.DeepCutAuto
import Derived.Outline
namespace Go.Proofs.YtlboolhjfffppaaDoor.PTBL
open Go.RowKit Go.Proofs.YtlboolhjfffppaaDoorW.PrintWords Go.Proofs.YtlboolhjfffppaaDoorW.PrintLast Go.Proofs.YtlboolhjfffppaaDoorW.PrintMore
set_option linter.unusedVariables false
set_option linter.unusedSimpArgs false
def flat32 (x : S35) : List Value := [.int .i64 x.f0, .int .i64 x.f1, .string x.f2, .int .i64 x.f3, .int .i64 x.f4.f0, .int .i64 x.f4.f1]
theorem k32_M (x : S35) (w : World) (base : Nat) (ok : Nat → Prop) : k35.M w base ok x (flat32 x) := by
  refine ⟨[.int .i64 x.f0], _, rfl, rfl, ?_⟩
  refine ⟨[.int .i64 x.f1], _, rfl, rfl, ?_⟩
  refine ⟨[.string x.f2], _, rfl, rfl, ?_⟩
  refine ⟨[.int .i64 x.f3], _, rfl, rfl, ?_⟩
  refine ⟨[.int .i64 x.f4.f0], _, rfl, rfl, ?_⟩
  rfl
theorem flat_len (xs : List S35) : (xs.flatMap flat32).length = xs.length * 6 := by
  induction xs with
  | nil => rfl
  | cons x xs ih => rw [List.flatMap_cons, List.length_append, ih]; simp [flat32]; omega
theorem flat_at (w : World) (base : Nat) (ok : Nat → Prop) (xs : List S35) : ∀ (j : Nat) (p : S35), xs[j]? = some p → k35.M w base ok p (((xs.flatMap flat32).drop (j * 6)).take 6) := by
  induction xs with
  | nil => intro j p hj; simp at hj
  | cons x xs ih =>
    intro j p hj
    cases j with
    | zero =>
      obtain rfl : x = p := by simpa using hj
      have e : ((List.flatMap flat32 (x :: xs)).drop (0 * 6)).take 6 = flat32 x := by simp [flat32]
      rw [e]; exact k32_M x w base ok
    | succ j =>
      have e : ((List.flatMap flat32 (x :: xs)).drop ((j + 1) * 6)) = (List.flatMap flat32 xs).drop (j * 6) := by
        rw [List.flatMap_cons, show (j + 1) * 6 = (flat32 x).length + j * 6 from by simp [flat32]; omega, ← List.drop_drop]
        simp
      rw [e]; exact ih j p (by simpa using hj)
theorem reps32 (w : World) (base : Nat) (ok : Nat → Prop) (xs : List S35) : Reps (k35.M w base ok) 6 xs (xs.flatMap flat32) := ⟨flat_len xs, flat_at w base ok xs⟩
theorem R_nodes (w : World) (base g : Nat) (xs : List S35) (hx : 0 < xs.length) (hl : xs.length ≤ 1000000) (hg : base ≤ g) (hb : w.heap[g]? = some (.cells (xs.flatMap flat32).toArray 35 (0, 0))) : Kd.R k35 35 w base (fun _ => True) (.slice (some ⟨g, 0, none⟩) xs.length xs.length) xs := by
  have hlen := flat_len xs
  have h6 : k35.sz = 6 := rfl
  refine ⟨fun _ _ => trivial, xs.flatMap flat32, ⟨by rw [h6]; exact hlen, Or.inr ⟨g, xs.length, _, rfl, hg, hb, Nat.le_refl _, by unfold maxLen; omega, by rw [h6, List.size_toArray]; exact hlen, by rw [h6, ← hlen]; simp [-List.length_flatMap]⟩⟩, ?_⟩
  rw [h6]; exact (reps32 w base _ xs)
theorem flat_inj (w : World) (base : Nat) (ok : Nat → Prop) : ∀ (xs : List S35) (inner : List Value), inner.length = xs.length * 6 → (∀ j p, xs[j]? = some p → k35.M w base ok p ((inner.drop (j * 6)).take 6)) → inner = xs.flatMap flat32
  | [], inner, hl, _ => by
    have : inner.length = 0 := by simpa using hl
    rw [List.length_eq_zero_iff.1 this]; rfl
  | x :: xs, inner, hl, h => by
    have h0 := h 0 x rfl
    rw [Nat.zero_mul, List.drop_zero] at h0
    have h0 : inner.take 6 = flat32 x := k35_openM h0
    have ht := flat_inj w base ok xs (inner.drop 6) (by rw [List.length_drop, hl, List.length_cons]; omega) (fun j p hj => by
      have := h (j + 1) p (by simpa using hj)
      rw [List.drop_drop, show 6 + j * 6 = (j + 1) * 6 from by omega]
      exact this)
    rw [List.flatMap_cons, ← h0, ← ht, List.take_append_drop]
theorem R_open {w : World} {base : Nat} {ok : Nat → Prop} {v : Value} {xs : List S35} (h : Kd.R k35 35 w base ok v xs) (hne : xs ≠ []) :
    ∃ g cap cur, v = .slice (some ⟨g, 0, none⟩) xs.length cap ∧ base ≤ g ∧ w.heap[g]? = some (.cells cur 35 (0, 0)) ∧ xs.length ≤ cap ∧ cap ≤ maxLen ∧ cur.size = cap * 6 ∧ cur.toList.take (xs.length * 6) = xs.flatMap flat32 := by
  obtain ⟨_, inner, ⟨hl, ho⟩, hr⟩ := h
  have h6 : k35.sz = 6 := rfl
  rw [h6] at hl ho hr
  have hin := flat_inj w base _ xs inner hl hr.2
  rcases ho with ⟨_, h0⟩ | ⟨g, cap, cur, h1, h2, h3, h4, h5, h7, h8⟩
  · exact absurd (List.length_eq_zero_iff.1 h0) hne
  · exact ⟨g, cap, cur, h1, h2, h3, h4, h5, h7, h8.trans hin⟩
theorem R_shut {w : World} {base g cap : Nat} {cur : Array Value} {xs : List S35} (h2 : base ≤ g) (h3 : w.heap[g]? = some (.cells cur 35 (0, 0))) (h4 : xs.length ≤ cap) (h5 : cap ≤ maxLen) (h7 : cur.size = cap * 6) (h8 : cur.toList.take (xs.length * 6) = xs.flatMap flat32) :
    Kd.R k35 35 w base (fun _ => True) (.slice (some ⟨g, 0, none⟩) xs.length cap) xs := by
  have h6 : k35.sz = 6 := rfl
  refine ⟨fun _ _ => trivial, xs.flatMap flat32, ?_, by rw [h6]; exact reps32 w base _ xs⟩
  rw [h6]
  exact ⟨flat_len xs, Or.inr ⟨g, cap, cur, rfl, h2, h3, h4, h5, h7, h8⟩⟩
theorem row_cell {w : World} {g : Nat} {cur : Array Value} {xs : List S35} (h3 : w.heap[g]? = some (.cells cur 35 (0, 0))) (h8 : cur.toList.take (xs.length * 6) = xs.flatMap flat32) (j : Nat) (u : Value) (hu : (xs.flatMap flat32)[j]? = some u) : w.cell? ⟨g, j, none⟩ = some u := by
  rw [Joins.cell_of_block h3, ← Array.getElem?_toList]
  rw [← h8, List.getElem?_take] at hu
  split at hu
  · exact hu
  · cases hu
theorem row_put {w : World} {base g cap : Nat} {cur : Array Value} {o0 : S35} {ot : List S35} (z : Int) (h2 : base ≤ g) (h3 : w.heap[g]? = some (.cells cur 35 (0, 0))) (h4 : (o0 :: ot).length ≤ cap) (h5 : cap ≤ maxLen) (h7 : cur.size = cap * 6) (h8 : cur.toList.take ((o0 :: ot).length * 6) = (o0 :: ot).flatMap flat32) :
    Kd.R k35 35 (w.setCell ⟨g, 1, none⟩ (.int .i64 z)) base (fun _ => True) (.slice (some ⟨g, 0, none⟩) (o0 :: ot).length cap) ({ o0 with f1 := z } :: ot) := by
  have hb := Joins.block_setCell (i := 1) h3 (.int .i64 z)
  refine R_shut (xs := { o0 with f1 := z } :: ot) h2 hb h4 h5 (by rw [Array.size_setIfInBounds]; exact h7) ?_
  rw [Array.toList_setIfInBounds, List.take_set]
  rw [show ({ o0 with f1 := z } :: ot : List S35).length = (o0 :: ot).length from rfl, h8]
  rfl
theorem put_grown (w2 : World) (g : Nat) (z : Value) : w2.grownBy (w2.setCell ⟨g, 1, none⟩ z).drew (some g) := by
  have h : Below 0 w2 (w2.setCell ⟨g, 1, none⟩ z) := (Below.refl 0 w2).setCell (Nat.zero_le _) z
  refine ⟨h.os, h.tape, h.output, ?_, fun k _ hne => Below.heap_setCell _ _ _ _ (by show k ≠ g; intro e; exact hne (by rw [e]))⟩
  show w2.heap.size ≤ (w2.setCell ⟨g, 1, none⟩ z).heap.size
  simp
theorem put_grown1 (w2 : World) (g : Nat) (z : Value) : w2.grownBy (w2.setCell ⟨g, 1, none⟩ z) (some g) := by
  have h : Below 0 w2 (w2.setCell ⟨g, 1, none⟩ z) := (Below.refl 0 w2).setCell (Nat.zero_le _) z
  refine ⟨h.os, h.tape, h.output, ?_, fun k _ hne => Below.heap_setCell _ _ _ _ (by show k ≠ g; intro e; exact hne (by rw [e]))⟩
  show w2.heap.size ≤ (w2.setCell ⟨g, 1, none⟩ z).heap.size
  simp
def stepU (kind : Int) (s : S35 × List S35) (x : List S35) : S35 × List S35 :=
  if (rd_T35 x 0).f0 = kind then ({ s.1 with f1 := wrap64 (wrap64 (s.1.f1 + (rd_T35 x 0).f1) - 1) }, s.2 ++ x.drop 1) else (s.1, s.2 ++ x)
def stU (kind : Int) (a b : List S35) : Nat → S35 × List S35
  | 0 => (⟨kind, 2, ⟨#[]⟩, 0, ⟨0, 0⟩⟩, [])
  | 1 => stepU kind (⟨kind, 2, ⟨#[]⟩, 0, ⟨0, 0⟩⟩, []) a
  | _ => stepU kind (stepU kind (⟨kind, 2, ⟨#[]⟩, 0, ⟨0, 0⟩⟩, []) a) b
theorem stU_len (kind : Int) (a b : List S35) (q : Nat) : (stU kind a b q).2.length ≤ a.length + b.length := by
  have h : ∀ s x, (stepU kind s x).2.length ≤ s.2.length + x.length := fun s x => by
    unfold stepU
    split <;> simp <;> omega
  match q with
  | 0 => exact Nat.zero_le _
  | 1 => have := h (⟨kind, 2, ⟨#[]⟩, 0, ⟨0, 0⟩⟩, []) a; simp only [List.length_nil] at this; show (stepU kind _ a).2.length ≤ _; omega
  | q + 2 =>
    have h1 := h (⟨kind, 2, ⟨#[]⟩, 0, ⟨0, 0⟩⟩, []) a
    have h2 := h (stepU kind (⟨kind, 2, ⟨#[]⟩, 0, ⟨0, 0⟩⟩, []) a) b
    simp only [List.length_nil] at h1
    show (stepU kind (stepU kind _ a) b).2.length ≤ _
    omega
set_option maxHeartbeats 4000000 in
set_option maxRecDepth 100000 in
theorem under_calls (kind : Int) (A1 A2 : Option Addr) (c1 c2 : Nat) (a b : List S35) (w : World) (hA : Kd.C k35 w A1 a.length a) (hB : Kd.C k35 w A2 b.length b) (hc1 : a.length ≤ c1) (hc2 : b.length ≤ c2)
    (ha0 : 1 ≤ a.length) (ha1 : a.length ≤ 64) (hb0 : 1 ≤ b.length) (hb1 : b.length ≤ 64) (ha2 : (rd_T35 a 0).f0 = kind → 2 ≤ a.length) (hb2 : (rd_T35 b 0).f0 = kind → 2 ≤ b.length) :
    Calls Tryd.prog 6 #[.int .i64 kind, .slice A1 a.length c1, .slice A2 b.length c2] w fun e w' =>
      ∃ v, e = .returned v ∧ Kd.R k35 35 w' w.heap.size (fun _ => True) v ((stU kind a b 2).1 :: (stU kind a b 2).2) ∧ Below w.heap.size w w' := by
  go_enter Tryd.func6, Tryd.ntmps6
  go_wp2
  go_loopw [7, 17] (fun vo v wr => ∃ q : Nat, v = .int .i64 q ∧ q ≤ 2 ∧ Kd.R k35 35 wr w.heap.size (fun _ => True) vo ((stU kind a b q).1 :: (stU kind a b q).2) ∧ Below w.heap.size w wr ∧ wr.heap[w.heap.size + 1]? = some (.cells #[.slice A1 a.length c1, .slice A2 b.length c2] 22 (0, 0)))
    (fun _ v _ => 2 - (intOf v).toNat)
  case atStart =>
    exact ⟨0, rfl, Nat.zero_le _, R_nodes _ _ w.heap.size [⟨kind, 2, ⟨#[]⟩, 0, ⟨0, 0⟩⟩] (by simp) (by simp) (Nat.le_refl _) (blk_alloc (MapKept.heap_alloc w _).1 _), below_aa w _ _, new_two w _ _⟩
  case round =>
    obtain ⟨q, rfl, hq, hR, hb, hArr⟩ := hrel
    by_cases c5 : q < 2
    · obtain ⟨Ax, cx, x, hcell, hX, hcx, hx0, hx1, hx2, hst⟩ : ∃ Ax cx x, wr.cell? ⟨w.heap.size + 1, q, none⟩ = some (.slice Ax x.length cx) ∧ Kd.C k35 w Ax x.length x ∧ x.length ≤ cx ∧ 1 ≤ x.length ∧ x.length ≤ 64 ∧ ((rd_T35 x 0).f0 = kind → 2 ≤ x.length) ∧ stU kind a b (q + 1) = stepU kind (stU kind a b q) x := by
        rcases (show q = 0 ∨ q = 1 by omega) with rfl | rfl
        · exact ⟨A1, c1, a, (Joins.cell_of_block hArr 0).trans rfl, hA, hc1, ha0, ha1, ha2, rfl⟩
        · exact ⟨A2, c2, b, (Joins.cell_of_block hArr 1).trans rfl, hB, hc2, hb0, hb1, hb2, rfl⟩
      have hq2 : (q : Int) < 2 := by omega
      have hxl : (0 : Int) < (x.length : Int) := by omega
      have hlen := stU_len kind a b q
      obtain ⟨⟨o0, ot⟩, hs⟩ : ∃ s, stU kind a b q = s := ⟨_, rfl⟩
      rw [hs] at hR hst hlen
      simp only [] at hR hlen
      obtain ⟨g, cap, cur, rfl, hgb, hcur, hlc, hcm, hcs, hct⟩ := R_open hR (by simp)
      have hga : g ≠ w.heap.size + 1 := by
        rintro rfl
        rw [hArr] at hcur
        simp at hcur
      have hgw : g < wr.heap.size := (Array.getElem?_eq_some_iff.1 hcur).1
      obtain ⟨ad, rfl, x0, x1, x2, x3, x4, x5⟩ := at_T35 (Kd.C_below hX hb) 0 (by decide) (by omega)
      simp only [Int.toNat_zero, Nat.zero_mul] at x0 x1 x2 x3 x4 x5
      rw [show ad.add 0 = ad from by cases ad; simp [Addr.add]] at x0 x1 x2 x3 x4 x5
      have z1 := row_cell hcur hct 1 (.int .i64 o0.f1) rfl
      have zf := Joins.unfrozen_of_block hcur 1
      obtain ⟨m, hm⟩ : ∃ m, rd_T35 x 0 = m := ⟨_, rfl⟩
      rw [hm] at x0 x1 x2 x3 x4 x5 hx2
      have HW := Lib.hid hst
      clear hst
      by_cases c6 : m.f0 = kind
      · have d1 : (m.f0 == kind) = true := beq_iff_eq.2 c6
        have cc : ¬ cx = 1 := by have := hx2 c6; omega
        have hRW := Kd.R_drew (row_put (wrap64 (wrap64 (o0.f1 + m.f1) - 1)) hgb hcur hlc hcm hcs hct)
        have hGW := put_grown wr g (.int .i64 (wrap64 (wrap64 (o0.f1 + m.f1) - 1)))
        have hbW : Below w.heap.size w (wr.setCell ⟨g, 1, none⟩ (.int .i64 (wrap64 (wrap64 (o0.f1 + m.f1) - 1)))).drew := hb.grown hGW hb.size (fun k hk => by cases hk; exact hgb)
        have hXW : Kd.C k35 (wr.setCell ⟨g, 1, none⟩ (.int .i64 (wrap64 (wrap64 (o0.f1 + m.f1) - 1)))).drew (some ⟨ad.block, ad.off + 6, none⟩) (x.length - 1) (x.drop 1) := by
          have h := Kd.C_drop (m := 1) (c := cx) (Kd.C_below hX hbW) (by omega) hcx
          rw [if_neg cc, List.length_drop] at h
          exact h
        have hArrW := (hGW.block (w.heap.size + 1) (lt_of_block hArr) (by simp; omega)).trans hArr
        go_wp2
        go_region
        go_wp2_with ((with_reducible refine gate_builtin (b := .append) (xs := #[.tmp 47, .tmp 48]) rfl ?_); at_builtin; go_must (refine Kd.R_append_rows k35 (Rr := k35.K (wr.setCell ⟨g, 1, none⟩ (.int .i64 (wrap64 (wrap64 (o0.f1 + m.f1) - 1)))).drew) (w0 := w) w.heap.size rfl (.tmp 47) (.tmp 48) 22 35 (.agg #[(.int .i64 0), (.int .i64 0), (.string ⟨#[]⟩), (.int .i64 0), (.int .i64 0), (.int .i64 0)]) 56 rfl Tryd.underlying22 info35 rfl (by decide) (by omega) (.slice (some ⟨g, 0, none⟩) (ot.length + 1) cap) ({ o0 with f1 := wrap64 (wrap64 (o0.f1 + m.f1) - 1) } :: ot) (x.drop 1) _ _ _ (fun _ => True) (fun _ => False) rfl rfl hRW hXW (fun x cs e => by rw [k35_open e]; exact k32_M x _ _ _) (fun _ h => h.elim) (fun _ _ => trivial) hbW hbW.size (by simp; omega) ?_; intro v1 w1 hR1 hb1 hg1 _; have hA3 := (hg1.block (w.heap.size + 1) (lt_of_block hArrW) (by simp [Value.ownBlock]; omega)).trans hArrW))
        go_roundw
        case rel => exact ⟨q + 1, by go_num, by omega, by rw [HW.out]; unfold stepU; rw [hm, if_pos c6]; exact hR1, hb1, hA3⟩
        case measure => simp [intOf]; omega
      · have d1 : (m.f0 == kind) = false := beq_eq_false_iff_ne.2 c6
        go_wp2_with ((with_reducible refine gate_builtin (b := .append) (xs := #[.tmp 47, .tmp 48]) rfl ?_); at_builtin; go_must (refine Kd.R_append_rows k35 (Rr := k35.K wr) (w0 := w) w.heap.size rfl (.tmp 47) (.tmp 48) 22 35 (.agg #[(.int .i64 0), (.int .i64 0), (.string ⟨#[]⟩), (.int .i64 0), (.int .i64 0), (.int .i64 0)]) 56 rfl Tryd.underlying22 info35 rfl (by decide) (by omega) (.slice (some ⟨g, 0, none⟩) (ot.length + 1) cap) (o0 :: ot) x _ _ _ (fun _ => True) (fun _ => False) rfl rfl hR (Kd.C_below hX hb) (fun x cs e => by rw [k35_open e]; exact k32_M x _ _ _) (fun _ h => h.elim) (fun _ _ => trivial) hb hb.size (by simp; omega) ?_; intro v1 w1 hR1 hb1 hg1 _; have hA3 := (hg1.block (w.heap.size + 1) (lt_of_block hArr) (by simp [Value.ownBlock]; omega)).trans hArr))
        go_roundw
        case rel => exact ⟨q + 1, by go_num, by omega, by rw [HW.out]; unfold stepU; rw [hm, if_neg c6]; exact hR1, hb1, hA3⟩
        case measure => simp [intOf]; omega
    · obtain rfl : q = 2 := by omega
      go_wp2
      go_ret
      exact ⟨_, rfl, hR, hb⟩
end Go.Proofs.YtlboolhjfffppaaDoor.PTBL
