/- The walks of the law of checks: lent and kept facts, the law itself. -/
import Derived.Test.YtkghkpmolcbmmaaGreatDoorPCHKx14
import Derived.Test.YtkghkpmolcbmmaaGreatDoorPCHKx15
import Derived.Test.YtkghkpmolcbmmaaGreatDoorPCHKx23
import Derived.Test.YtkghkpmolcbmmaaGreatDoorPCHKx26
import Derived.Test.YtkghkpmolcbmmaaGreatDoorPCHKx25
import Derived.Test.YtkghkpmolcbmmaaGreatDoorPCHKx22
import Derived.Test.YtkghkpmolcbmmaaGreatDoorPCHKx20
import Derived.Test.YtkghkpmolcbmmaaGreatDoorPCHKx9
import Derived.Test.YtkghkpmolcbmmaaGreatDoorPCHKx7
import Derived.Test.YtkghkpmolcbmmaaGreatDoorPCHKx13
import Derived.RegionTactic
import Derived.BigRegion
import Derived.Deep.RegionHeld3
import Derived.Deep.DeepCutAuto
import Derived.Outline
namespace Go.Proofs.YtkghkpmolcbmmaaGreatDoor.PCHK
open Go.RowKit Go.Proofs.YtkghkpmolcbmmaaGreatDoorW.PrintWords Go.Proofs.YtkghkpmolcbmmaaGreatDoorW.PrintLast Go.Proofs.YtkghkpmolcbmmaaGreatDoorW.PrintMore
set_option linter.unusedVariables false
set_option linter.unusedSimpArgs false
theorem R_six {w2 : World} {b n : Nat} {v : Value} {xs : List ByteArray} (h : Kd.R Kd.string 9 w2 b (fun k => n + 2 ≤ k) v xs) (hb : n ≤ b) (u0 u1 u2 u3 u4 u5 : Value) :
    Kd.R Kd.string 9 ((((((w2.setCell ⟨n, 1, none⟩ u0).setCell ⟨n + 1, 0, none⟩ u1).setCell ⟨n + 1, 1, none⟩ u2).setCell ⟨n + 1, 2, none⟩ u3).setCell ⟨n + 1, 3, none⟩ u4).setCell ⟨n + 1, 4, none⟩ u5) n (fun _ => True) v xs := by
  have h0 : ∀ k, n + 2 ≤ k → k ≠ n := fun k hk => by omega
  have h1 : ∀ k, n + 2 ≤ k → k ≠ n + 1 := fun k hk => by omega
  exact Kd.R_lower (Kd.R_mono (Kd.R_far (p := ⟨n + 1, 4, none⟩) (Kd.R_far (p := ⟨n + 1, 3, none⟩) (Kd.R_far (p := ⟨n + 1, 2, none⟩) (Kd.R_far (p := ⟨n + 1, 1, none⟩) (Kd.R_far (p := ⟨n + 1, 0, none⟩) (Kd.R_far (p := ⟨n, 1, none⟩) h h0 u0) h1 u1) h1 u2) h1 u3) h1 u4) h1 u5) (fun _ _ => trivial)) hb
theorem lentFacts_calls (k : Nat) (AB : Option Addr) (cB : Nat) (lB : List ByteArray) (AL : Option Addr) (cL : Nat) (lL : List ByteArray) (fa fd fq : Int) (rB rL : List ByteArray) (w : World) (hCB : Kd.C Kd.string w AB lB.length lB) (hcB : lB.length ≤ cB) (hCL : Kd.C Kd.string w AL lL.length lL) (hcL : lL.length ≤ cL)
    (h1 : tollbookkit_LentTexts.f k lB = some rB) (h2 : tollbookkit_LentTexts.f k lL = some rL) :
    Calls Tryz.prog 12 #[.agg #[.slice AB lB.length cB, .slice AL lL.length cL, .int .i64 fa, .int .i64 fd, .int .i64 fq]] w fun e w' => ∃ (A1 : Option Addr) (c1 : Nat) (A2 : Option Addr) (c2 : Nat), e = .returned (.agg #[.slice A1 lB.length c1, .slice A2 lL.length c2, .int .i64 fa, .int .i64 fd, .int .i64 fq]) ∧ lB.length ≤ rB.length ∧ lL.length ≤ rL.length ∧ Kd.R Kd.string 9 w' w.heap.size (fun _ => True) (.slice A1 rB.length c1) rB ∧ Kd.R Kd.string 9 w' w.heap.size (fun _ => True) (.slice A2 rL.length c2) rL ∧ Below w.heap.size w w' := by
  obtain ⟨o1, ho1⟩ : ∃ o, o = Obj.cells #[.slice AB lB.length cB, .slice AL lL.length cL, .int .i64 fa, .int .i64 fd, .int .i64 fq] 31 := ⟨_, rfl⟩
  obtain ⟨o2, ho2⟩ : ∃ o, o = Obj.cells #[.slice none 0 0, .slice none 0 0, .int .i64 0, .int .i64 0, .int .i64 0] 31 := ⟨_, rfl⟩
  have hbx : Below w.heap.size w ((w.alloc o1).alloc o2) := ((Below.refl _ _).alloc (Nat.le_refl _) _).alloc (by simp) _
  have hsz : ((w.alloc o1).alloc o2).heap.size = w.heap.size + 2 := by simp
  have hn0 : ((w.alloc o1).alloc o2).heap[w.heap.size]? = some o1 := (Below.heap_alloc _ _ _ (by simp)).trans (MapKept.heap_alloc w _).1
  have hn1 : ((w.alloc o1).alloc o2).heap[w.heap.size + 1]? = some o2 := by
    have := (MapKept.heap_alloc (w.alloc o1) o2).1
    rwa [show (w.alloc o1).heap.size = w.heap.size + 1 from by simp] at this
  have hC1 := tollbookkit_LentTexts.calls k AB cB lB rB ((w.alloc o1).alloc o2) (Kd.C_below hCB hbx) hcB h1
  have hC2 := fun (W : World) (hW : Below w.heap.size w W) => tollbookkit_LentTexts.calls k AL cL lL rL W (Kd.C_below hCL hW) hcL h2
  have hon : ∀ w1, Below ((w.alloc o1).alloc o2).heap.size ((w.alloc o1).alloc o2) w1 → w1.heap[w.heap.size]? = some o1 ∧ w1.heap[w.heap.size + 1]? = some o2 ∧ Below w.heap.size w w1 ∧ w.heap.size + 2 ≤ w1.heap.size := fun w1 hb =>
    ⟨(hb.block _ (by omega)).trans hn0, (hb.block _ (by omega)).trans hn1, hbx.trans (hb.mono (by omega)), by have := hb.size; omega⟩
  have hon0 : ((w.alloc o1).alloc o2).heap.size = w.heap.size + 2 := hsz
  rw [ho1, ho2] at hC1 hon hon0
  clear hbx hsz hn0 hn1 ho1 ho2
  go_enter Tryz.func12, Tryz.ntmps12
  go_wp2_with fail
  refine hC1.mono ?_
  rintro e w1 ⟨A1, c1, rfl, hl1, hR1, hb1⟩
  obtain ⟨g0, g1, hB1, hz1⟩ := hon w1 hb1
  have e0 : w1.cell? ⟨w.heap.size, 0, none⟩ = some (.slice AB lB.length cB) := (Joins.cell_of_block g0 0).trans rfl
  have e1 : w1.cell? ⟨w.heap.size, 1, none⟩ = some (.slice AL lL.length cL) := (Joins.cell_of_block g0 1).trans rfl
  have u0 := Joins.unfrozen_of_block g0 0
  have hB2 : Below w.heap.size w (w1.setCell ⟨w.heap.size, 0, none⟩ (.slice A1 lB.length c1)) := hB1.setCell (Nat.le_refl _) _
  have hC3 := hC2 _ hB2
  have s0 := Joins.block_setCell (i := 0) g0 (.slice A1 lB.length c1)
  have s1 : (w1.setCell ⟨w.heap.size, 0, none⟩ (.slice A1 lB.length c1)).heap[w.heap.size + 1]? = some (.cells #[.slice none 0 0, .slice none 0 0, .int .i64 0, .int .i64 0, .int .i64 0] 31 (0, 0)) := (Below.heap_setCell _ _ _ _ (by show w.heap.size + 1 ≠ w.heap.size; omega)).trans g1
  have hR2 := Kd.R_far (p := ⟨w.heap.size, 0, none⟩) (Kd.R_bound hR1) (fun k hk => by have h := hk.2.1; have hs := hon0; show k ≠ w.heap.size; omega) (.slice A1 lB.length c1)
  have hz2 : w.heap.size + 2 ≤ (w1.setCell ⟨w.heap.size, 0, none⟩ (.slice A1 lB.length c1)).heap.size := by simp; omega
  clear hB1 hb1 g1 hR1 hC1 hon
  go_wp2_with fail
  refine hC3.mono ?_
  rintro e w2 ⟨A2, c2, rfl, hl2, hR3, hb2⟩
  have g2 : w2.heap[w.heap.size]? = some (.cells #[.slice A1 lB.length c1, .slice AL lL.length cL, .int .i64 fa, .int .i64 fd, .int .i64 fq] 31 (0, 0)) := (hb2.block _ (lt_of_block s0)).trans s0
  have g3 := (hb2.block _ (lt_of_block s1)).trans s1
  have k0 : w2.cell? ⟨w.heap.size, 0, none⟩ = some (.slice A1 lB.length c1) := (Joins.cell_of_block g2 0).trans rfl
  have k1 : w2.cell? ⟨w.heap.size, 1, none⟩ = some (.slice AL lL.length cL) := (Joins.cell_of_block g2 1).trans rfl
  have k2 : w2.cell? ⟨w.heap.size, 2, none⟩ = some (.int .i64 fa) := (Joins.cell_of_block g2 2).trans rfl
  have k3 : w2.cell? ⟨w.heap.size, 3, none⟩ = some (.int .i64 fd) := (Joins.cell_of_block g2 3).trans rfl
  have k4 : w2.cell? ⟨w.heap.size, 4, none⟩ = some (.int .i64 fq) := (Joins.cell_of_block g2 4).trans rfl
  have u1 := Joins.unfrozen_of_block g2 1
  have m0 : w2.cell? ⟨w.heap.size + 1, 0, none⟩ = some (.slice none 0 0) := (Joins.cell_of_block g3 0).trans rfl
  have m1 : w2.cell? ⟨w.heap.size + 1, 1, none⟩ = some (.slice none 0 0) := (Joins.cell_of_block g3 1).trans rfl
  have m2 : w2.cell? ⟨w.heap.size + 1, 2, none⟩ = some (.int .i64 0) := (Joins.cell_of_block g3 2).trans rfl
  have m3 : w2.cell? ⟨w.heap.size + 1, 3, none⟩ = some (.int .i64 0) := (Joins.cell_of_block g3 3).trans rfl
  have m4 : w2.cell? ⟨w.heap.size + 1, 4, none⟩ = some (.int .i64 0) := (Joins.cell_of_block g3 4).trans rfl
  have n0 := Joins.unfrozen_of_block g3 0
  have n1 := Joins.unfrozen_of_block g3 1
  have n2 := Joins.unfrozen_of_block g3 2
  have n3 := Joins.unfrozen_of_block g3 3
  have n4 := Joins.unfrozen_of_block g3 4
  have hB3 : Below w.heap.size w w2 := hB2.trans (hb2.mono (by omega))
  have hR4 := Kd.R_below hR2 hb2
  have hR5 := Kd.R_mono (ok' := fun k => w.heap.size + 2 ≤ k) (Kd.R_bound hR3) (fun k hk => by have := hk.2.1; omega)
  have hR6 := Kd.R_mono (ok' := fun k => w.heap.size + 2 ≤ k) hR4 (fun k hk => by have := hk.2.1; omega)
  clear hR3 hR4 hR2 hC2 hC3 hB2 hb2 s0 s1 g0 g2 g3 hon0 e0 e1 u0
  go_wp2_with fail
  exact bodyPost_ret (v := .agg #[.slice A1 lB.length c1, .slice A2 lL.length c2, .int .i64 fa, .int .i64 fd, .int .i64 fq]) (by simp [results, Tryz.results12, go_sem, m0, m1, m2, m3, m4]) rfl
    ⟨A1, c1, A2, c2, rfl, hl1, hl2, R_six hR6 (by simp; omega) _ _ _ _ _ _, R_six hR5 (by omega) _ _ _ _ _ _, ((((((hB3.setCell (Nat.le_refl _) _).setCell (Nat.le_succ _) _).setCell (Nat.le_succ _) _).setCell (Nat.le_succ _) _).setCell (Nat.le_succ _) _).setCell (Nat.le_succ _) _)⟩
theorem keptFacts_calls (k : Nat) (A1 : Option Addr) (c1 : Nat) (A2 : Option Addr) (c2 : Nat) (rB rL : List ByteArray) (AB : Option Addr) (cB : Nat) (lB : List ByteArray) (AL : Option Addr) (cL : Nat) (lL : List ByteArray) (fa fd fq : Int) (w : World)
    (hX1 : Kd.C Kd.string w A1 rB.length rB) (hx1 : rB.length ≤ c1) (hX2 : Kd.C Kd.string w A2 rL.length rL) (hx2 : rL.length ≤ c2)
    (hl1 : lB.length ≤ rB.length) (hl2 : lL.length ≤ rL.length) (ht1 : rB.take lB.length = lB) (ht2 : rL.take lL.length = lL)
    (hCB : Kd.C Kd.string w AB lB.length lB) (hcB : lB.length ≤ cB) (hCL : Kd.C Kd.string w AL lL.length lL) (hcL : lL.length ≤ cL)
    (hS : tollbookkit_SameFacts.f k lB lL fa fd fq lB lL fa fd fq = some true) (hK1 : tollbookkit_KeptTexts.f k lB.length rB lB = some true) (hK2 : tollbookkit_KeptTexts.f k lL.length rL lL = some true) :
    Calls Tryz.prog 18 #[.agg #[.slice A1 lB.length c1, .slice A2 lL.length c2, .int .i64 fa, .int .i64 fd, .int .i64 fq], .agg #[.slice AB lB.length cB, .slice AL lL.length cL, .int .i64 fa, .int .i64 fd, .int .i64 fq]] w fun e w' => e = .returned (.bool true) ∧ Below w.heap.size w w' := by
  have hY1 : Kd.C Kd.string w A1 lB.length lB := by have := Kd.C_take (m := lB.length) hX1 hl1; rwa [ht1] at this
  have hY2 : Kd.C Kd.string w A2 lL.length lL := by have := Kd.C_take (m := lL.length) hX2 hl2; rwa [ht2] at this
  have h1 := fun (W : World) (hW : Below w.heap.size w W) => tollbookkit_SameFacts.calls k A1 c1 lB A2 c2 lL fa fd fq AB cB lB AL cL lL fa fd fq true W (Kd.C_below hY1 hW) (by omega) (Kd.C_below hY2 hW) (by omega) (Kd.C_below hCB hW) hcB (Kd.C_below hCL hW) hcL hS
  have h2 := fun (W : World) (hW : Below w.heap.size w W) => tollbookkit_KeptTexts.calls k A1 c1 lB.length rB AB cB lB true W (Kd.C_below hX1 hW) hx1 (Kd.C_below hCB hW) hcB hK1
  have h3 := fun (W : World) (hW : Below w.heap.size w W) => tollbookkit_KeptTexts.calls k A2 c2 lL.length rL AL cL lL true W (Kd.C_below hX2 hW) hx2 (Kd.C_below hCL hW) hcL hK2
  obtain ⟨o1, ho1⟩ : ∃ o, o = Obj.cells #[.slice A1 lB.length c1, .slice A2 lL.length c2, .int .i64 fa, .int .i64 fd, .int .i64 fq] 31 := ⟨_, rfl⟩
  obtain ⟨o2, ho2⟩ : ∃ o, o = Obj.cells #[.slice AB lB.length cB, .slice AL lL.length cL, .int .i64 fa, .int .i64 fd, .int .i64 fq] 31 := ⟨_, rfl⟩
  have hbx : Below w.heap.size w ((w.alloc o1).alloc o2) := ((Below.refl _ _).alloc (Nat.le_refl _) _).alloc (by simp) _
  have hsz : ((w.alloc o1).alloc o2).heap.size = w.heap.size + 2 := by simp
  have hn0 : ((w.alloc o1).alloc o2).heap[w.heap.size]? = some o1 := (Below.heap_alloc _ _ _ (by simp)).trans (MapKept.heap_alloc w _).1
  have hn1 : ((w.alloc o1).alloc o2).heap[w.heap.size + 1]? = some o2 := by
    have := (MapKept.heap_alloc (w.alloc o1) o2).1
    rwa [show (w.alloc o1).heap.size = w.heap.size + 1 from by simp] at this
  have h0 := h1 _ hbx
  have hon : ∀ w1, Below ((w.alloc o1).alloc o2).heap.size ((w.alloc o1).alloc o2) w1 → w1.heap[w.heap.size]? = some o1 ∧ w1.heap[w.heap.size + 1]? = some o2 ∧ Below w.heap.size w w1 := fun w1 hb =>
    ⟨(hb.block _ (by omega)).trans hn0, (hb.block _ (by omega)).trans hn1, hbx.trans (hb.mono (by omega))⟩
  have hcell : ∀ w1 : World, w1.heap[w.heap.size]? = some o1 → w1.heap[w.heap.size + 1]? = some o2 → w1.cell? ⟨w.heap.size, 0, none⟩ = some (.slice A1 lB.length c1) ∧ w1.cell? ⟨w.heap.size, 1, none⟩ = some (.slice A2 lL.length c2) ∧ w1.cell? ⟨w.heap.size + 1, 0, none⟩ = some (.slice AB lB.length cB) ∧ w1.cell? ⟨w.heap.size + 1, 1, none⟩ = some (.slice AL lL.length cL) := fun w1 e1 e2 => by
    rw [ho1] at e1; rw [ho2] at e2
    exact ⟨(Joins.cell_of_block e1 0).trans rfl, (Joins.cell_of_block e1 1).trans rfl, (Joins.cell_of_block e2 0).trans rfl, (Joins.cell_of_block e2 1).trans rfl⟩
  have HON := Lib.hid hon
  have HCE := Lib.hid hcell
  rw [ho1, ho2] at h0 HON
  rw [ho1, ho2] at HCE
  clear hbx hsz hn0 hn1 hon hcell ho1 ho2 h1 hS hK1 hK2 ht1 ht2
  go_enter Tryz.func18, Tryz.ntmps18
  go_wp2_with fail
  refine h0.mono ?_
  rintro e w1 ⟨rfl, hb1⟩
  obtain ⟨g0, g1, hB1⟩ := HON.out w1 hb1
  obtain ⟨e0, e1, e2, e3⟩ := HCE.out w1 g0 g1
  go_wp2_with fail
  refine (h2 w1 hB1).mono ?_
  rintro e w2 ⟨rfl, hb2⟩
  have g2 := (hb2.block _ (lt_of_block g0)).trans g0
  have g3 := (hb2.block _ (lt_of_block g1)).trans g1
  have hB2 : Below w.heap.size w w2 := hB1.trans (hb2.mono hB1.size)
  obtain ⟨j0, j1, j2, j3⟩ := HCE.out w2 g2 g3
  go_wp2_with fail
  refine (h3 w2 hB2).mono ?_
  rintro e w3 ⟨rfl, hb3⟩
  go_wp2_with fail
  go_ret
  exact ⟨rfl, hB2.trans (hb3.mono hB2.size)⟩
end Go.Proofs.YtkghkpmolcbmmaaGreatDoor.PCHK
