/- The walk of the law of checks. -/
import Derived.Test.YtkghkpmolcbmmaaGreatDoorChkWalk
import Derived.Test.YtkghkpmolcbmmaaGreatDoorPCHKx14
import Derived.Test.YtkghkpmolcbmmaaGreatDoorPCHKx15
import Derived.Test.YtkghkpmolcbmmaaGreatDoorPCHKx23
import Derived.Test.YtkghkpmolcbmmaaGreatDoorPCHKx26
import Derived.Test.YtkghkpmolcbmmaaGreatDoorPCHKx25
import Derived.Test.YtkghkpmolcbmmaaGreatDoorPCHKx22
import Derived.Test.YtkghkpmolcbmmaaGreatDoorPCHKx20
import Derived.Test.YtkghkpmolcbmmaaGreatDoorPCHKx9
import Derived.Test.YtkghkpmolcbmmaaGreatDoorPCHKx7
import Derived.Test.YtkghkpmolcbmmaaGreatDoorPCHKx13
import Derived.RegionTactic
import Derived.BigRegion
import Derived.Deep.RegionHeld3
import Derived.Deep.DeepCutAuto
import Derived.Outline
namespace Go.Proofs.YtkghkpmolcbmmaaGreatDoor.PCHK
open Go.RowKit Go.Proofs.YtkghkpmolcbmmaaGreatDoorW.PrintWords Go.Proofs.YtkghkpmolcbmmaaGreatDoorW.PrintLast Go.Proofs.YtkghkpmolcbmmaaGreatDoorW.PrintMore
set_option linter.unusedVariables false
set_option linter.unusedSimpArgs false
theorem R_far5 {α : Type} {d : Kd α} {e : Nat} {w : World} {base g : Nat} {v : Value} {xs : List α} (h : d.R e w base (fun k => k ≠ g) v xs) (u0 u1 u2 u3 u4 : Value) :
    d.R e (((((w.setCell ⟨g, 0, none⟩ u0).setCell ⟨g, 1, none⟩ u1).setCell ⟨g, 2, none⟩ u2).setCell ⟨g, 3, none⟩ u3).setCell ⟨g, 4, none⟩ u4) base (fun k => k ≠ g) v xs :=
  Kd.R_far (p := ⟨g, 4, none⟩) (Kd.R_far (p := ⟨g, 3, none⟩) (Kd.R_far (p := ⟨g, 2, none⟩) (Kd.R_far (p := ⟨g, 1, none⟩) (Kd.R_far (p := ⟨g, 0, none⟩) h (fun _ hk => hk) u0) (fun _ hk => hk) u1) (fun _ hk => hk) u2) (fun _ hk => hk) u3) (fun _ hk => hk) u4
def LentAt (n0 nB nL : Nat) (rN : List S47) (rB rL : List ByteArray) (fa fd fq : Int) (v0 : Value) (wx : World) (A : Option Addr) (c gb : Nat) (A1 : Option Addr) (c1 : Nat) (A2 : Option Addr) (c2 : Nat) (w : World) : Prop :=
  (Kd.C k47 wx A rN.length rN ∧ rN.length ≤ c) ∧ (Kd.C Kd.string wx A1 rB.length rB ∧ rB.length ≤ c1) ∧ (Kd.C Kd.string wx A2 rL.length rL ∧ rL.length ≤ c2) ∧
    wx.heap[gb]? = some (.cells #[.slice A1 nB c1, .slice A2 nL c2, .int .i64 fa, .int .i64 fd, .int .i64 fq] 31 (0, 0)) ∧ wx.heap[w.heap.size]? = some (.cells (match v0 with | .agg cs => cs | _ => #[]) 31 (0, 0)) ∧ Below w.heap.size w wx
theorem rows_of {α : Type} {d : Kd α} {e : Nat} {w : World} {base : Nat} {ok : Nat → Prop} {A : Option Addr} {c : Nat} {xs : List α} (h : d.R e w base ok (.slice A xs.length c) xs) : d.C w A xs.length xs ∧ xs.length ≤ c := by
  obtain ⟨_, h1, h2⟩ := Kd.R_reads' h
  exact ⟨h2, h1⟩
theorem checks_calls (k : Nat) (A0 : Option Addr) (c0 : Nat) (l0 rN : List S47) (AB : Option Addr) (cB : Nat) (lB rB : List ByteArray) (AL : Option Addr) (cL : Nat) (lL rL : List ByteArray) (fa fd fq e0 h0 : Int) (w : World)
    (hr0 : Kd.C k47 w A0 l0.length l0) (hc0 : l0.length ≤ c0) (hCB : Kd.C Kd.string w AB lB.length lB) (hcB : lB.length ≤ cB) (hCL : Kd.C Kd.string w AL lL.length lL) (hcL : lL.length ≤ cL) (hG : GT w)
    (p1 : tollbookkit_LentNodes.f k l0 = some rN) (p2 : tollbookkit_LentTexts.f k lB = some rB) (p3 : tollbookkit_LentTexts.f k lL = some rL)
    (t1 : rN.take l0.length = l0) (t2 : rB.take lB.length = lB) (t3 : rL.take lL.length = lL)
    (p4 : traits_Check.f k l0 = some e0) (p5 : traits_Fit.f k lB lL fa fd fq = some h0) (p6 : tollbookref13_Check.f k l0 = some e0) (p7 : tollbookref13_Fit.f k lB lL fa fd fq = some h0)
    (p8 : tollbookkit_KeptNodes.f k l0.length rN l0 = some true) (p9 : tollbookkit_SameFacts.f k lB lL fa fd fq lB lL fa fd fq = some true) (p10 : tollbookkit_KeptTexts.f k lB.length rB lB = some true) (p11 : tollbookkit_KeptTexts.f k lL.length rL lL = some true) (p12 : tollbooklaw13_awake.f k = some true) :
    Calls Tryz.prog 4 #[.slice A0 l0.length c0, .agg #[.slice AB lB.length cB, .slice AL lL.length cL, .int .i64 fa, .int .i64 fd, .int .i64 fq]] w fun e w' => e = .returned (.bool true) ∧ Below w.heap.size w w' := by
  obtain ⟨ob, hob⟩ : ∃ o, o = Obj.cells #[.slice AB lB.length cB, .slice AL lL.length cL, .int .i64 fa, .int .i64 fd, .int .i64 fq] 31 := ⟨_, rfl⟩
  have hbx : Below w.heap.size w (w.alloc ob) := (Below.refl _ _).alloc (Nat.le_refl _) _
  have hn0 : (w.alloc ob).heap[w.heap.size]? = some ob := (MapKept.heap_alloc w _).1
  have hC1 := fun (W : World) (hW : Below w.heap.size w W) => tollbookkit_LentNodes.calls k A0 c0 l0 rN W (Kd.C_below hr0 hW) hc0 p1
  have hC2 := fun (W : World) (hW : Below w.heap.size w W) => lentFacts_calls k AB cB lB AL cL lL fa fd fq rB rL W (Kd.C_below hCB hW) hcB (Kd.C_below hCL hW) hcL p2 p3
  have hcell : ∀ W : World, W.heap[w.heap.size]? = some ob → W.cell? ⟨w.heap.size, 0, none⟩ = some (.slice AB lB.length cB) ∧ W.cell? ⟨w.heap.size, 1, none⟩ = some (.slice AL lL.length cL) ∧ W.cell? ⟨w.heap.size, 2, none⟩ = some (.int .i64 fa) ∧ W.cell? ⟨w.heap.size, 3, none⟩ = some (.int .i64 fd) ∧ W.cell? ⟨w.heap.size, 4, none⟩ = some (.int .i64 fq) := fun W e => by
    rw [hob] at e
    exact ⟨(Joins.cell_of_block e 0).trans rfl, (Joins.cell_of_block e 1).trans rfl, (Joins.cell_of_block e 2).trans rfl, (Joins.cell_of_block e 3).trans rfl, (Joins.cell_of_block e 4).trans rfl⟩
  have hn0d : (w.alloc ob).drew.heap[w.heap.size]? = some ob := hn0
  obtain ⟨q0, q1, q2, q3, q4⟩ := hcell (w.alloc ob).drew hn0d
  have hS : ∀ W w' : World, Below w.heap.size w W → W.heap[w.heap.size]? = some (.cells #[.slice AB lB.length cB, .slice AL lL.length cL, .int .i64 fa, .int .i64 fd, .int .i64 fq] 31 (0, 0)) → Below W.heap.size W w' → (Below w.heap.size w w' ∧ w'.heap[w.heap.size]? = some (.cells #[.slice AB lB.length cB, .slice AL lL.length cL, .int .i64 fa, .int .i64 fd, .int .i64 fq] 31 (0, 0)) ∧ w'.cell? ⟨w.heap.size, 0, none⟩ = some (.slice AB lB.length cB) ∧ w'.cell? ⟨w.heap.size, 1, none⟩ = some (.slice AL lL.length cL) ∧ w'.cell? ⟨w.heap.size, 2, none⟩ = some (.int .i64 fa) ∧ w'.cell? ⟨w.heap.size, 3, none⟩ = some (.int .i64 fd) ∧ w'.cell? ⟨w.heap.size, 4, none⟩ = some (.int .i64 fq)) := fun W w' h1 h2 h3 => by
    have e : w'.heap[w.heap.size]? = some (.cells #[.slice AB lB.length cB, .slice AL lL.length cL, .int .i64 fa, .int .i64 fd, .int .i64 fq] 31 (0, 0)) := (h3.block _ (lt_of_block h2)).trans h2
    exact ⟨h1.trans (h3.mono h1.size), e, hcell w' (by rw [hob]; exact e)⟩
  have HS := Lib.hid hS
  clear hS
  have hS5 : ∀ (W : World) (g : Nat) (u0 u1 u2 u3 u4 : Value), Below w.heap.size w W → W.heap[w.heap.size]? = some (.cells #[.slice AB lB.length cB, .slice AL lL.length cL, .int .i64 fa, .int .i64 fd, .int .i64 fq] 31 (0, 0)) → w.heap.size < g → (Below w.heap.size w (((((W.setCell ⟨g, 0, none⟩ u0).setCell ⟨g, 1, none⟩ u1).setCell ⟨g, 2, none⟩ u2).setCell ⟨g, 3, none⟩ u3).setCell ⟨g, 4, none⟩ u4) ∧ (((((W.setCell ⟨g, 0, none⟩ u0).setCell ⟨g, 1, none⟩ u1).setCell ⟨g, 2, none⟩ u2).setCell ⟨g, 3, none⟩ u3).setCell ⟨g, 4, none⟩ u4).heap[w.heap.size]? = some (.cells #[.slice AB lB.length cB, .slice AL lL.length cL, .int .i64 fa, .int .i64 fd, .int .i64 fq] 31 (0, 0)) ∧ (((((W.setCell ⟨g, 0, none⟩ u0).setCell ⟨g, 1, none⟩ u1).setCell ⟨g, 2, none⟩ u2).setCell ⟨g, 3, none⟩ u3).setCell ⟨g, 4, none⟩ u4).cell? ⟨w.heap.size, 0, none⟩ = some (.slice AB lB.length cB) ∧ (((((W.setCell ⟨g, 0, none⟩ u0).setCell ⟨g, 1, none⟩ u1).setCell ⟨g, 2, none⟩ u2).setCell ⟨g, 3, none⟩ u3).setCell ⟨g, 4, none⟩ u4).cell? ⟨w.heap.size, 1, none⟩ = some (.slice AL lL.length cL) ∧ (((((W.setCell ⟨g, 0, none⟩ u0).setCell ⟨g, 1, none⟩ u1).setCell ⟨g, 2, none⟩ u2).setCell ⟨g, 3, none⟩ u3).setCell ⟨g, 4, none⟩ u4).cell? ⟨w.heap.size, 2, none⟩ = some (.int .i64 fa) ∧ (((((W.setCell ⟨g, 0, none⟩ u0).setCell ⟨g, 1, none⟩ u1).setCell ⟨g, 2, none⟩ u2).setCell ⟨g, 3, none⟩ u3).setCell ⟨g, 4, none⟩ u4).cell? ⟨w.heap.size, 3, none⟩ = some (.int .i64 fd) ∧ (((((W.setCell ⟨g, 0, none⟩ u0).setCell ⟨g, 1, none⟩ u1).setCell ⟨g, 2, none⟩ u2).setCell ⟨g, 3, none⟩ u3).setCell ⟨g, 4, none⟩ u4).cell? ⟨w.heap.size, 4, none⟩ = some (.int .i64 fq)) := fun W g u0 u1 u2 u3 u4 h1 h2 h3 => by
    have hne : w.heap.size ≠ g := by omega
    have hle : w.heap.size ≤ g := by omega
    have e : (((((W.setCell ⟨g, 0, none⟩ u0).setCell ⟨g, 1, none⟩ u1).setCell ⟨g, 2, none⟩ u2).setCell ⟨g, 3, none⟩ u3).setCell ⟨g, 4, none⟩ u4).heap[w.heap.size]? = some (.cells #[.slice AB lB.length cB, .slice AL lL.length cL, .int .i64 fa, .int .i64 fd, .int .i64 fq] 31 (0, 0)) := (Below.heap_setCell _ _ _ _ hne).trans ((Below.heap_setCell _ _ _ _ hne).trans ((Below.heap_setCell _ _ _ _ hne).trans ((Below.heap_setCell _ _ _ _ hne).trans ((Below.heap_setCell _ _ _ _ hne).trans h2))))
    exact ⟨((((h1.setCell hle _).setCell hle _).setCell hle _).setCell hle _).setCell hle _, e, hcell _ (by rw [hob]; exact e)⟩
  have HS5 := Lib.hid hS5
  clear hS5
  have HG : Hid (∀ W : World, W.heap[w.heap.size]? = some (.cells #[.slice AB lB.length cB, .slice AL lL.length cL, .int .i64 fa, .int .i64 fd, .int .i64 fq] 31 (0, 0)) → w.heap.size < W.heap.size) := Lib.hid fun W e => lt_of_block e
  have HCE := Lib.hid hcell
  clear hcell
  rw [hob] at hbx hn0 hn0d q0 q1 q2 q3 q4
  have HM : Hid (∀ (W : World) (g b1 b2 : Nat) (An : Option Addr) (cn : Nat) (A1 : Option Addr) (c1 : Nat) (A2 : Option Addr) (c2 : Nat), Below w.heap.size w W → W.heap[w.heap.size]? = some (.cells #[.slice AB lB.length cB, .slice AL lL.length cL, .int .i64 fa, .int .i64 fd, .int .i64 fq] 31 (0, 0)) → w.heap.size < g → W.heap[g]? = some (.cells #[.slice none 0 0, .slice none 0 0, .int .i64 0, .int .i64 0, .int .i64 0] 31 (0, 0)) → Kd.R k47 47 W b1 (fun k => k ≠ g) (.slice An rN.length cn) rN → Kd.R Kd.string 9 W b2 (fun k => k ≠ g) (.slice A1 rB.length c1) rB → Kd.R Kd.string 9 W b2 (fun k => k ≠ g) (.slice A2 rL.length c2) rL → LentAt l0.length lB.length lL.length rN rB rL fa fd fq (.agg #[.slice AB lB.length cB, .slice AL lL.length cL, .int .i64 fa, .int .i64 fd, .int .i64 fq]) (((((W.setCell ⟨g, 0, none⟩ (.slice A1 lB.length c1)).setCell ⟨g, 1, none⟩ (.slice A2 lL.length c2)).setCell ⟨g, 2, none⟩ (.int .i64 fa)).setCell ⟨g, 3, none⟩ (.int .i64 fd)).setCell ⟨g, 4, none⟩ (.int .i64 fq)) An cn g A1 c1 A2 c2 w) := Lib.hid fun W g b1 b2 An cn A1 c1 A2 c2 h1 h2 h3 h4 r1 r2 r3 => by
    have hs := HS5.out W g (.slice A1 lB.length c1) (.slice A2 lL.length c2) (.int .i64 fa) (.int .i64 fd) (.int .i64 fq) h1 h2 h3
    refine ⟨rows_of (R_far5 r1 _ _ _ _ _), rows_of (R_far5 r2 _ _ _ _ _), rows_of (R_far5 r3 _ _ _ _ _), ?_, hs.2.1, hs.1⟩
    exact Joins.block_setCell (i := 4) (Joins.block_setCell (i := 3) (Joins.block_setCell (i := 2) (Joins.block_setCell (i := 1) (Joins.block_setCell (i := 0) h4 _) _) _) _) _
  have HMA : Hid (∀ (W : World) (b1 b2 : Nat) (An : Option Addr) (cn : Nat) (A1 : Option Addr) (c1 : Nat) (A2 : Option Addr) (c2 : Nat), Below w.heap.size w W → W.heap[w.heap.size]? = some (.cells #[.slice AB lB.length cB, .slice AL lL.length cL, .int .i64 fa, .int .i64 fd, .int .i64 fq] 31 (0, 0)) → Kd.R k47 47 W b1 (fun _ => True) (.slice An rN.length cn) rN → Kd.R Kd.string 9 W b2 (fun _ => True) (.slice A1 rB.length c1) rB → Kd.R Kd.string 9 W b2 (fun _ => True) (.slice A2 rL.length c2) rL → LentAt l0.length lB.length lL.length rN rB rL fa fd fq (.agg #[.slice AB lB.length cB, .slice AL lL.length cL, .int .i64 fa, .int .i64 fd, .int .i64 fq]) (W.alloc (.cells #[.slice A1 lB.length c1, .slice A2 lL.length c2, .int .i64 fa, .int .i64 fd, .int .i64 fq] 31)) An cn W.heap.size A1 c1 A2 c2 w) := Lib.hid fun W b1 b2 An cn A1 c1 A2 c2 h1 h2 r1 r2 r3 =>
    ⟨rows_of (Kd.R_alloc r1 _), rows_of (Kd.R_alloc r2 _), rows_of (Kd.R_alloc r3 _), (MapKept.heap_alloc W _).1, (Below.heap_alloc _ _ _ (by have := lt_of_block h2; omega)).trans h2, h1.alloc h1.size _⟩
  have HZ : Hid (∀ (W : World) (g : Nat), W.heap[g]? = some (.cells #[.slice none 0 0, .slice none 0 0, .int .i64 0, .int .i64 0, .int .i64 0] 31 (0, 0)) → (W.cell? ⟨g, 0, none⟩ = some (.slice none 0 0) ∧ W.cell? ⟨g, 1, none⟩ = some (.slice none 0 0) ∧ W.cell? ⟨g, 2, none⟩ = some (.int .i64 0) ∧ W.cell? ⟨g, 3, none⟩ = some (.int .i64 0) ∧ W.cell? ⟨g, 4, none⟩ = some (.int .i64 0)) ∧ (W.frozen? ⟨g, 0, none⟩ = false ∧ W.frozen? ⟨g, 1, none⟩ = false ∧ W.frozen? ⟨g, 2, none⟩ = false ∧ W.frozen? ⟨g, 3, none⟩ = false ∧ W.frozen? ⟨g, 4, none⟩ = false)) := Lib.hid fun W g e =>
    ⟨⟨(Joins.cell_of_block e 0).trans rfl, (Joins.cell_of_block e 1).trans rfl, (Joins.cell_of_block e 2).trans rfl, (Joins.cell_of_block e 3).trans rfl, (Joins.cell_of_block e 4).trans rfl⟩, ⟨Joins.unfrozen_of_block e 0, Joins.unfrozen_of_block e 1, Joins.unfrozen_of_block e 2, Joins.unfrozen_of_block e 3, Joins.unfrozen_of_block e 4⟩⟩
  have HN : Hid (∀ w2 : World, Below ((w.alloc (.cells #[.slice AB lB.length cB, .slice AL lL.length cL, .int .i64 fa, .int .i64 fd, .int .i64 fq] 31)).alloc (.cells #[.slice none 0 0, .slice none 0 0, .int .i64 0, .int .i64 0, .int .i64 0] 31)).drew.heap.size ((w.alloc (.cells #[.slice AB lB.length cB, .slice AL lL.length cL, .int .i64 fa, .int .i64 fd, .int .i64 fq] 31)).alloc (.cells #[.slice none 0 0, .slice none 0 0, .int .i64 0, .int .i64 0, .int .i64 0] 31)).drew w2 → w2.heap[w.heap.size + 1]? = some (.cells #[.slice none 0 0, .slice none 0 0, .int .i64 0, .int .i64 0, .int .i64 0] 31 (0, 0))) := Lib.hid fun w2 hb => by
    have e := (MapKept.heap_alloc (w.alloc (.cells #[.slice AB lB.length cB, .slice AL lL.length cL, .int .i64 fa, .int .i64 fd, .int .i64 fq] 31)) (.cells #[.slice none 0 0, .slice none 0 0, .int .i64 0, .int .i64 0, .int .i64 0] 31)).1
    rw [show (w.alloc (.cells #[.slice AB lB.length cB, .slice AL lL.length cL, .int .i64 fa, .int .i64 fd, .int .i64 fq] 31)).heap.size = w.heap.size + 1 from by simp] at e
    exact (hb.block _ (lt_of_block e)).trans e
  have HF : Hid (∀ w2 w3 : World, Below (w2.alloc (.cells #[.slice none 0 0, .slice none 0 0, .int .i64 0, .int .i64 0, .int .i64 0] 31)).heap.size (w2.alloc (.cells #[.slice none 0 0, .slice none 0 0, .int .i64 0, .int .i64 0, .int .i64 0] 31)) w3 → w3.heap[w2.heap.size]? = some (.cells #[.slice none 0 0, .slice none 0 0, .int .i64 0, .int .i64 0, .int .i64 0] 31 (0, 0))) := Lib.hid fun w2 w3 hb =>
    (hb.block _ (by simp)).trans (MapKept.heap_alloc w2 _).1
  have HK : Hid (∀ (w2 w3 : World) (g : Nat), w2.heap[g]? = some (.cells #[.slice none 0 0, .slice none 0 0, .int .i64 0, .int .i64 0, .int .i64 0] 31 (0, 0)) → Below w2.heap.size w2 w3 → w3.heap[g]? = some (.cells #[.slice none 0 0, .slice none 0 0, .int .i64 0, .int .i64 0, .int .i64 0] 31 (0, 0))) := Lib.hid fun w2 w3 g e hb => (hb.block _ (lt_of_block e)).trans e
  have hbd := below_drew hbx
  have hnd : (w.alloc (.cells #[.slice AB lB.length cB, .slice AL lL.length cL, .int .i64 fa, .int .i64 fd, .int .i64 fq] 31)).drew.heap[w.heap.size]? = some (.cells #[.slice AB lB.length cB, .slice AL lL.length cL, .int .i64 fa, .int .i64 fd, .int .i64 fq] 31 (0, 0)) := hn0
  go_enter Tryz.func4, Tryz.ntmps4
  go_upto_region 1 with fail
  go_cut [5, 6] (fun s5 s6 wx => ∃ (A : Option Addr) (c gb : Nat) (A1 : Option Addr) (c1 : Nat) (A2 : Option Addr) (c2 : Nat), s5 = .slice A l0.length c ∧ s6 = .pointer (some ⟨gb, 0, none⟩) ∧ LentAt l0.length lB.length lL.length rN rB rL fa fd fq (.agg #[.slice AB lB.length cB, .slice AL lL.length cL, .int .i64 fa, .int .i64 fd, .int .i64 fq]) wx A c gb A1 c1 A2 c2 w)
  case first =>
    go_region_held3 (fun w' => Below w.heap.size w w' ∧ w'.heap[w.heap.size]? = some (.cells #[.slice AB lB.length cB, .slice AL lL.length cL, .int .i64 fa, .int .i64 fd, .int .i64 fq] 31 (0, 0)) ∧ w'.cell? ⟨w.heap.size, 0, none⟩ = some (.slice AB lB.length cB) ∧ w'.cell? ⟨w.heap.size, 1, none⟩ = some (.slice AL lL.length cL) ∧ w'.cell? ⟨w.heap.size, 2, none⟩ = some (.int .i64 fa) ∧ w'.cell? ⟨w.heap.size, 3, none⟩ = some (.int .i64 fd) ∧ w'.cell? ⟨w.heap.size, 4, none⟩ = some (.int .i64 fq))
      (first | with_reducible exact ⟨hbd, hnd, q0, q1, q2, q3, q4⟩ | with_reducible exact HS5.out _ _ _ _ _ _ _ (by first | with_reducible assumption | exact (HS.out _ _ (by with_reducible assumption) (by with_reducible assumption) ((Below.refl _ _).alloc (Nat.le_refl _) _)).1) (by first | with_reducible assumption | exact (HS.out _ _ (by with_reducible assumption) (by with_reducible assumption) ((Below.refl _ _).alloc (Nat.le_refl _) _)).2.1) (by first | exact Nat.lt_succ_self _ | exact HG.out _ (by with_reducible assumption)) | with_reducible assumption | exact HS.out _ _ (by with_reducible assumption) (by with_reducible assumption) ((Below.refl _ _).alloc (Nat.le_refl _) _) | go_keep)
      (first
        | (go_at_call 11; go_must (refine (hC1 _ (by first | with_reducible assumption | exact (HS.out _ _ (by with_reducible assumption) (by with_reducible assumption) ((Below.refl _ _).alloc (Nat.le_refl _) _)).1)).mono ?_; rintro e w2 ⟨An, cn, rfl, hln, hRn, hbn⟩; have hsn := HS.out _ _ (by first | with_reducible assumption | exact (HS.out _ _ (by with_reducible assumption) (by with_reducible assumption) ((Below.refl _ _).alloc (Nat.le_refl _) _)).1) (by first | with_reducible assumption | exact (HS.out _ _ (by with_reducible assumption) (by with_reducible assumption) ((Below.refl _ _).alloc (Nat.le_refl _) _)).2.1) hbn; have hbn1 := hsn.1; have hbn2 := hsn.2.1; (first | (with_reducible (have z0 := HN.out _ hbn)) | skip)))
        | (go_at_call 12; refine (hC2 _ (by first | with_reducible assumption | exact (HS.out _ _ (by with_reducible assumption) (by with_reducible assumption) ((Below.refl _ _).alloc (Nat.le_refl _) _)).1)).mono ?_; rintro e w3 ⟨A1, c1, A2, c2, rfl, hl1, hl2, hR1, hR2, hbf⟩; have hsf := HS.out _ _ (by first | with_reducible assumption | exact (HS.out _ _ (by with_reducible assumption) (by with_reducible assumption) ((Below.refl _ _).alloc (Nat.le_refl _) _)).1) (by first | with_reducible assumption | exact (HS.out _ _ (by with_reducible assumption) (by with_reducible assumption) ((Below.refl _ _).alloc (Nat.le_refl _) _)).2.1) hbf; have hbf1 := hsf.1; have hbf2 := hsf.2.1; (first | ((with_reducible (have z1 := HF.out _ _ hbf)); obtain ⟨⟨m0, m1, m2, m3, m4⟩, n0, n1, n2, n3, n4⟩ := HZ.out _ _ z1) | ((with_reducible (have z1 := HK.out _ _ _ z0 hbf)); obtain ⟨⟨m0, m1, m2, m3, m4⟩, n0, n1, n2, n3, n4⟩ := HZ.out _ _ z1) | skip)))
    · go_wp2_with fail
      go_meet
      case rel => exact ⟨_, _, _, _, _, _, _, rfl, rfl, HMA.out _ _ _ _ _ _ _ _ _ hbf1 hbf2 (Kd.R_below hRn hbf) hR1 hR2⟩
    · go_wp2_with fail
      go_meet
      case rel =>
        have hg0 : w.heap.size < w2.heap.size := lt_of_block hbn2
        have hRa := Kd.R_below (Kd.R_alloc (Kd.R_mono (Kd.R_bound hRn) (ok' := fun k => k ≠ w2.heap.size) (fun k hk => by have := hk.2.2.1; omega)) _) hbf
        have hRb := Kd.R_mono (Kd.R_bound hR1) (ok' := fun k => k ≠ w2.heap.size) (fun k hk => by have := hk.2.1; simp at this; omega)
        have hRc := Kd.R_mono (Kd.R_bound hR2) (ok' := fun k => k ≠ w2.heap.size) (fun k hk => by have := hk.2.1; simp at this; omega)
        exact ⟨_, _, _, _, _, _, _, rfl, rfl, HM.out _ _ _ _ _ _ _ _ _ _ hbf1 hbf2 hg0 z1 hRa hRb hRc⟩
    · go_wp2_with fail
      go_meet
      case rel =>
        have hg0 : w.heap.size < w.heap.size + 1 := Nat.lt_succ_self _
        have hg1 : w.heap.size + 1 < w2.heap.size := lt_of_block z0
        have hRa := Kd.R_below (Kd.R_mono (Kd.R_bound hRn) (ok' := fun k => k ≠ w.heap.size + 1) (fun k hk => by have := hk.2.1; simp at this; omega)) hbf
        have hRb := Kd.R_mono (Kd.R_bound hR1) (ok' := fun k => k ≠ w.heap.size + 1) (fun k hk => by have := hk.2.1; omega)
        have hRc := Kd.R_mono (Kd.R_bound hR2) (ok' := fun k => k ≠ w.heap.size + 1) (fun k hk => by have := hk.2.1; omega)
        exact ⟨_, _, _, _, _, _, _, rfl, rfl, HM.out _ _ _ _ _ _ _ _ _ _ hbf1 hbf2 hg0 z1 hRa hRb hRc⟩
  case rest =>
    obtain ⟨A, c, gb, A1, c1, A2, c2, rfl, rfl, ⟨hX, hXc⟩, ⟨hX1, hx1⟩, ⟨hX2, hx2⟩, hgb, hgo, hBx⟩ := hcut
    replace hgo : wc.heap[w.heap.size]? = some (.cells #[.slice AB lB.length cB, .slice AL lL.length cL, .int .i64 fa, .int .i64 fd, .int .i64 fq] 31 (0, 0)) := hgo
    have hlN : l0.length ≤ rN.length := by have := congrArg List.length t1; rw [List.length_take] at this; omega
    have hlB : lB.length ≤ rB.length := by have := congrArg List.length t2; rw [List.length_take] at this; omega
    have hlL : lL.length ≤ rL.length := by have := congrArg List.length t3; rw [List.length_take] at this; omega
    have hX0 : Kd.C k47 wc A l0.length l0 := by have := Kd.C_take (m := l0.length) hX hlN; rwa [t1] at this
    have hY1 : Kd.C Kd.string wc A1 lB.length lB := by have := Kd.C_take (m := lB.length) hX1 hlB; rwa [t2] at this
    have hY2 : Kd.C Kd.string wc A2 lL.length lL := by have := Kd.C_take (m := lL.length) hX2 hlL; rwa [t3] at this
    have hW0 : ∀ W : World, Below wc.heap.size wc W → Below w.heap.size w W := fun W hW => hBx.trans (hW.mono hBx.size)
    have K1 := fun (W : World) (hW : Below wc.heap.size wc W) => traits_Check.calls k A c l0 e0 W (Kd.C_below hX0 hW) (Nat.le_trans hlN hXc) p4 (hG.at (hW0 W hW))
    have K2 := fun (W : World) (hW : Below wc.heap.size wc W) => traits_Fit.calls k A1 c1 lB A2 c2 lL fa fd fq h0 W (Kd.C_below hY1 hW) (Nat.le_trans hlB hx1) (Kd.C_below hY2 hW) (Nat.le_trans hlL hx2) p5 (hG.at (hW0 W hW))
    have K3 := fun (W : World) (hW : Below wc.heap.size wc W) => tollbookref13_Check.calls k A0 c0 l0 e0 W (Kd.C_below hr0 (hW0 W hW)) hc0 p6
    have K4 := fun (W : World) (hW : Below wc.heap.size wc W) => tollbookref13_Fit.calls k AB cB lB AL cL lL fa fd fq h0 W (Kd.C_below hCB (hW0 W hW)) hcB (Kd.C_below hCL (hW0 W hW)) hcL p7
    have K5 := fun (W : World) (hW : Below wc.heap.size wc W) => tollbookkit_KeptNodes.calls k A c l0.length rN A0 c0 l0 true W (Kd.C_below hX hW) hXc (Kd.C_below hr0 (hW0 W hW)) hc0 p8
    have K6 := fun (W : World) (hW : Below wc.heap.size wc W) => keptFacts_calls k A1 c1 A2 c2 rB rL AB cB lB AL cL lL fa fd fq W (Kd.C_below hX1 hW) hx1 (Kd.C_below hX2 hW) hx2 hlB hlL t2 t3 (Kd.C_below hCB (hW0 W hW)) hcB (Kd.C_below hCL (hW0 W hW)) hcL p9 p10 p11
    have K7 := fun (W : World) (hW : Below wc.heap.size wc W) => tollbooklaw13_awake.calls k true W p12 (hG.at (hW0 W hW))
    have HW := Lib.hid hW0
    have HT : Hid (∀ W w' : World, Below wc.heap.size wc W → Below W.heap.size W w' → (Below wc.heap.size wc w' ∧ w'.cell? ⟨gb, 0, none⟩ = some (.slice A1 lB.length c1) ∧ w'.cell? ⟨gb, 1, none⟩ = some (.slice A2 lL.length c2) ∧ w'.cell? ⟨gb, 2, none⟩ = some (.int .i64 fa) ∧ w'.cell? ⟨gb, 3, none⟩ = some (.int .i64 fd) ∧ w'.cell? ⟨gb, 4, none⟩ = some (.int .i64 fq) ∧ w'.cell? ⟨w.heap.size, 0, none⟩ = some (.slice AB lB.length cB) ∧ w'.cell? ⟨w.heap.size, 1, none⟩ = some (.slice AL lL.length cL) ∧ w'.cell? ⟨w.heap.size, 2, none⟩ = some (.int .i64 fa) ∧ w'.cell? ⟨w.heap.size, 3, none⟩ = some (.int .i64 fd) ∧ w'.cell? ⟨w.heap.size, 4, none⟩ = some (.int .i64 fq))) := Lib.hid fun W w' h1 h2 => by
      have hb : Below wc.heap.size wc w' := h1.trans (h2.mono h1.size)
      have g1 := (hb.block _ (lt_of_block hgb)).trans hgb
      have g2 := (hb.block _ (lt_of_block hgo)).trans hgo
      exact ⟨hb, (Joins.cell_of_block g1 0).trans rfl, (Joins.cell_of_block g1 1).trans rfl, (Joins.cell_of_block g1 2).trans rfl, (Joins.cell_of_block g1 3).trans rfl, (Joins.cell_of_block g1 4).trans rfl, (Joins.cell_of_block g2 0).trans rfl, (Joins.cell_of_block g2 1).trans rfl, (Joins.cell_of_block g2 2).trans rfl, (Joins.cell_of_block g2 3).trans rfl, (Joins.cell_of_block g2 4).trans rfl⟩
    have hd0 : Below wc.heap.size wc wc.drew := below_drew (Below.refl _ _)
    have hS0 := HT.out _ _ (Below.refl _ _) hd0
    obtain ⟨_, r0, r1, r2, r3, r4, r5, r6, r7, r8, r9⟩ := HT.out _ _ (Below.refl _ _) (Below.refl _ wc)
    clear hC1 hC2 HS HS5 HG HCE HM HMA HZ HN HF HK hbx hn0 hn0d q0 q1 q2 q3 q4 hbd hnd hob hW0 hG hX hX1 hX2 hX0 hY1 hY2 hr0 hCB hCL hgb hgo hlN hlB hlL p1 p2 p3 p4 p5 p6 p7 p8 p9 p10 p11 p12 t1 t2 t3
    go_upto_region 2 with fail
    go_region_held3 (fun w' => Below wc.heap.size wc w' ∧ w'.cell? ⟨gb, 0, none⟩ = some (.slice A1 lB.length c1) ∧ w'.cell? ⟨gb, 1, none⟩ = some (.slice A2 lL.length c2) ∧ w'.cell? ⟨gb, 2, none⟩ = some (.int .i64 fa) ∧ w'.cell? ⟨gb, 3, none⟩ = some (.int .i64 fd) ∧ w'.cell? ⟨gb, 4, none⟩ = some (.int .i64 fq) ∧ w'.cell? ⟨w.heap.size, 0, none⟩ = some (.slice AB lB.length cB) ∧ w'.cell? ⟨w.heap.size, 1, none⟩ = some (.slice AL lL.length cL) ∧ w'.cell? ⟨w.heap.size, 2, none⟩ = some (.int .i64 fa) ∧ w'.cell? ⟨w.heap.size, 3, none⟩ = some (.int .i64 fd) ∧ w'.cell? ⟨w.heap.size, 4, none⟩ = some (.int .i64 fq))
      (first | with_reducible assumption | go_keep)
      (first
        | (go_at_call 13; refine (K1 _ (by with_reducible assumption)).mono ?_; rintro e w5 ⟨rfl, hb5⟩; have hs5 := HT.out _ _ (by with_reducible assumption) hb5; have hs5b := hs5.1)
        | (go_at_call 14; refine (K2 _ (by with_reducible assumption)).mono ?_; rintro e w6 ⟨rfl, hb6⟩; have hs6 := HT.out _ _ (by with_reducible assumption) hb6; have hs6b := hs6.1))
    clear K1 K2
    obtain ⟨_, x0, x1, x2, x3, x4, x5, x6, x7, x8, x9⟩ := hs6
    go_wp2_with fail
    refine (K3 _ hs6b).mono ?_
    rintro e w7 ⟨rfl, hb7⟩
    obtain ⟨hs7b, y70, y71, y72, y73, y74, y75, y76, y77, y78, y79⟩ := HT.out _ _ hs6b hb7
    go_wp2_with fail
    refine (K4 _ hs7b).mono ?_
    rintro e w8 ⟨rfl, hb8⟩
    obtain ⟨hs8b, y80, y81, y82, y83, y84, y85, y86, y87, y88, y89⟩ := HT.out _ _ hs7b hb8
    go_wp2_with fail
    refine (K5 _ hs8b).mono ?_
    rintro e w9 ⟨rfl, hb9⟩
    obtain ⟨hs9b, y90, y91, y92, y93, y94, y95, y96, y97, y98, y99⟩ := HT.out _ _ hs8b hb9
    go_wp2_with fail
    refine (K6 _ hs9b).mono ?_
    rintro e w10 ⟨rfl, hb10⟩
    obtain ⟨hs10b, y100, y101, y102, y103, y104, y105, y106, y107, y108, y109⟩ := HT.out _ _ hs9b hb10
    go_wp2_with fail
    refine (K7 _ hs10b).mono ?_
    rintro e w11 ⟨rfl, hb11⟩
    obtain ⟨hs11b, y110, y111, y112, y113, y114, y115, y116, y117, y118, y119⟩ := HT.out _ _ hs10b hb11
    go_wp2_with fail
    go_ret
    exact ⟨rfl, HW.out _ hs11b⟩
end Go.Proofs.YtkghkpmolcbmmaaGreatDoor.PCHK
