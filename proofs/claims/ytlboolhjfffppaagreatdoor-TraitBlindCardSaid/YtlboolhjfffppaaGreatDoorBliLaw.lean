/- The walk of TraitBlind: two facts mixed by the names of a condition. -/
import Derived.Test.YtlboolhjfffppaaGreatDoorPBLIx15
import Derived.Test.YtlboolhjfffppaaGreatDoorPBLIx13
import Derived.Test.YtlboolhjfffppaaGreatDoorPBLIx3
import Derived.Test.YtlboolhjfffppaaGreatDoorPBLIx16
import Derived.Test.YtlboolhjfffppaaGreatDoorPBLIx14
import Derived.RegionTactic
import Derived.BigRegion
import Derived.Deep.RegionHeld3
import Derived.Deep.DeepCutAuto
import Derived.Outline
namespace Go.Proofs.YtlboolhjfffppaaGreatDoor.PBLI
open Go.RowKit Go.Proofs.YtlboolhjfffppaaGreatDoorW.PrintWords Go.Proofs.YtlboolhjfffppaaGreatDoorW.PrintLast Go.Proofs.YtlboolhjfffppaaGreatDoorW.PrintMore
set_option linter.unusedVariables false
set_option linter.unusedSimpArgs false
theorem rows_of {α : Type} {d : Kd α} {e : Nat} {w : World} {base : Nat} {ok : Nat → Prop} {A : Option Addr} {n c : Nat} {xs : List α} (h : d.R e w base ok (.slice A n c) xs) : n = xs.length ∧ d.C w A xs.length xs ∧ xs.length ≤ c := by
  obtain ⟨h0, h1, h2⟩ := Kd.R_reads' h
  exact ⟨h0, h2, by omega⟩
theorem R_far5 {α : Type} {d : Kd α} {e : Nat} {w : World} {base g : Nat} {v : Value} {xs : List α} (h : d.R e w base (fun k => k ≠ g) v xs) (u0 u1 u2 u3 u4 : Value) : d.R e (((((w.setCell ⟨g, 0, none⟩ u0).setCell ⟨g, 1, none⟩ u1).setCell ⟨g, 2, none⟩ u2).setCell ⟨g, 3, none⟩ u3).setCell ⟨g, 4, none⟩ u4) base (fun k => k ≠ g) v xs :=
  Kd.R_far (Kd.R_far (Kd.R_far (Kd.R_far (Kd.R_far h (fun _ hk => hk) _) (fun _ hk => hk) _) (fun _ hk => hk) _) (fun _ hk => hk) _) (fun _ hk => hk) _
def anyK (kd : Int) (l : List S44) : Bool := l.any fun n => decide (n.f0 = kd)
theorem anyK_mem {kd : Int} {l : List S44} {n : S44} (h : n ∈ l) (h0 : n.f0 = kd) : anyK kd l = true := List.any_eq_true.2 ⟨n, h, decide_eq_true h0⟩
theorem anyK_snoc (kd : Int) (l : List S44) (n : S44) : anyK kd (l ++ [n]) = (anyK kd l || decide (n.f0 = kd)) := by
  unfold anyK
  rw [List.any_append, List.any_cons, List.any_nil, Bool.or_false]
def pickI (b : Bool) (x y : Int) : Int := if b = true then x else y
theorem take_snocB (l : List S44) (i : Nat) (h : i < l.length) : l.take (i + 1) = l.take i ++ [rd_T44 l (i : Int)] := by
  rw [List.take_succ_eq_append_getElem h]
  unfold rd_T44
  rw [Int.toNat_natCast, List.getD_eq_getElem?_getD, List.getElem?_eq_getElem h]; rfl
theorem pick_yes (kd : Int) (l : List S44) (i : Nat) (h : i < l.length) (h0 : (rd_T44 l (i : Int)).f0 = kd) (x y : Int) : pickI (anyK kd (l.take (i + 1))) x y = x := by
  rw [take_snocB l i h, anyK_snoc, decide_eq_true h0, Bool.or_true]; rfl
theorem pick_no (kd : Int) (l : List S44) (i : Nat) (h : i < l.length) (h0 : ¬ (rd_T44 l (i : Int)).f0 = kd) (x y : Int) : pickI (anyK kd (l.take (i + 1))) x y = pickI (anyK kd (l.take i)) x y := by
  rw [take_snocB l i h, anyK_snoc, decide_eq_false h0, Bool.or_false]
set_option maxHeartbeats 4000000 in
set_option maxRecDepth 100000 in
theorem bidle_calls (k : Nat) (A0 : Option Addr) (c0 : Nat) (l0 : List S44) (AB : Option Addr) (cB : Nat) (lB : List ByteArray) (AL : Option Addr) (cL : Nat) (lL : List ByteArray) (fa fd fq : Int) (AB2 : Option Addr) (cB2 : Nat) (lB2 : List ByteArray) (AL2 : Option Addr) (cL2 : Nat) (lL2 : List ByteArray) (fa2 fd2 fq2 : Int) (bs ls : List ByteArray) (e0 h1 h2 : Int) (w : World)
    (hr0 : Kd.C k44 w A0 l0.length l0) (hc0 : l0.length ≤ c0) (hCB : Kd.C Kd.string w AB lB.length lB) (hcB : lB.length ≤ cB) (hCL : Kd.C Kd.string w AL lL.length lL) (hcL : lL.length ≤ cL) (hCB2 : Kd.C Kd.string w AB2 lB2.length lB2) (hcB2 : lB2.length ≤ cB2) (hCL2 : Kd.C Kd.string w AL2 lL2.length lL2) (hcL2 : lL2.length ≤ cL2) (hG : GT w)
    (p1 : traits_Names.f k l0 = some (bs, ls, e0)) (p2 : traits_Fit.f k lB lL fa fd fq = some h1) (p3 : traits_Fit.f k lB2 lL2 fa2 fd2 fq2 = some h2) (p4 : tollbooklaw13_awake.f k = some true) (hid : e0 ≠ 0 ∨ h1 ≠ 0 ∨ h2 ≠ 0) :
    Calls Tryz.prog 4 #[.slice A0 l0.length c0, .agg #[.slice AB lB.length cB, .slice AL lL.length cL, .int .i64 fa, .int .i64 fd, .int .i64 fq], .agg #[.slice AB2 lB2.length cB2, .slice AL2 lL2.length cL2, .int .i64 fa2, .int .i64 fd2, .int .i64 fq2]] w fun e w' => e = .returned (.bool true) ∧ Below w.heap.size w w' := by
  have K1 := fun (W : World) (hW : Below w.heap.size w W) => traits_Names.calls k A0 c0 l0 bs ls e0 W (Kd.C_below hr0 hW) hc0 p1 (hG.at hW)
  have K2 := fun (W : World) (hW : Below w.heap.size w W) => traits_Fit.calls k AB cB lB AL cL lL fa fd fq h1 W (Kd.C_below hCB hW) hcB (Kd.C_below hCL hW) hcL p2 (hG.at hW)
  have K3 := fun (W : World) (hW : Below w.heap.size w W) => traits_Fit.calls k AB2 cB2 lB2 AL2 cL2 lL2 fa2 fd2 fq2 h2 W (Kd.C_below hCB2 hW) hcB2 (Kd.C_below hCL2 hW) hcL2 p3 (hG.at hW)
  have K4 := fun (W : World) (hW : Below w.heap.size w W) => tollbooklaw13_awake.calls k W p4 (hG.at hW)
  clear hr0 hCB hCL hCB2 hCL2 hG p1 p2 p3 p4
  go_enter Tryz.func4, Tryz.ntmps4
  go_wp2_with fail
  obtain ⟨oF, hoF⟩ : ∃ o, o = Obj.cells #[.slice AB lB.length cB, .slice AL lL.length cL, .int .i64 fa, .int .i64 fd, .int .i64 fq] 25 := ⟨_, rfl⟩
  obtain ⟨oG, hoG⟩ : ∃ o, o = Obj.cells #[.slice AB2 lB2.length cB2, .slice AL2 lL2.length cL2, .int .i64 fa2, .int .i64 fd2, .int .i64 fq2] 25 := ⟨_, rfl⟩
  have hb0 := below_aa w oF oG
  have zF : ((w.alloc oF).alloc oG).heap[w.heap.size]? = some oF := blk_alloc (MapKept.heap_alloc w oF).1 _
  have zG := new_two w oF oG
  have HC : Hid (∀ W : World, Below ((w.alloc oF).alloc oG).heap.size ((w.alloc oF).alloc oG) W → Below w.heap.size w W ∧ W.cell? ⟨w.heap.size, 0, none⟩ = some (.slice AB lB.length cB) ∧ W.cell? ⟨w.heap.size, 1, none⟩ = some (.slice AL lL.length cL) ∧ W.cell? ⟨w.heap.size, 2, none⟩ = some (.int .i64 fa) ∧ W.cell? ⟨w.heap.size, 3, none⟩ = some (.int .i64 fd) ∧ W.cell? ⟨w.heap.size, 4, none⟩ = some (.int .i64 fq) ∧ W.cell? ⟨w.heap.size + 1, 0, none⟩ = some (.slice AB2 lB2.length cB2) ∧ W.cell? ⟨w.heap.size + 1, 1, none⟩ = some (.slice AL2 lL2.length cL2) ∧ W.cell? ⟨w.heap.size + 1, 2, none⟩ = some (.int .i64 fa2) ∧ W.cell? ⟨w.heap.size + 1, 3, none⟩ = some (.int .i64 fd2) ∧ W.cell? ⟨w.heap.size + 1, 4, none⟩ = some (.int .i64 fq2)) := Lib.hid fun W hW => by
    have e1 := blk_below zF hW
    have e2 := blk_below zG hW
    rw [hoF] at e1
    rw [hoG] at e2
    exact ⟨hb0.trans (hW.mono hb0.size), (Joins.cell_of_block e1 0).trans rfl, (Joins.cell_of_block e1 1).trans rfl, (Joins.cell_of_block e1 2).trans rfl, (Joins.cell_of_block e1 3).trans rfl, (Joins.cell_of_block e1 4).trans rfl, (Joins.cell_of_block e2 0).trans rfl, (Joins.cell_of_block e2 1).trans rfl, (Joins.cell_of_block e2 2).trans rfl, (Joins.cell_of_block e2 3).trans rfl, (Joins.cell_of_block e2 4).trans rfl⟩
  rw [← hoF, ← hoG]
  refine (K1 _ hb0).mono ?_
  rintro e w1 ⟨v1, u1, rfl, _, _, hb1⟩
  obtain ⟨H1, a0, a1, a2, a3, a4, a5, a6, a7, a8, a9⟩ := HC.out _ hb1
  clear zF zG
  by_cases q1 : e0 = 0
  · subst q1
    by_cases q2 : h1 = 0
    · subst q2
      have q3 : ¬ h2 = 0 := by rcases hid with h | h | h <;> first | exact absurd rfl h | exact h
      have q3' : (h2 == 0) = false := beq_eq_false_iff_ne.2 q3
      have q3'' : (!(h2 == 0)) = true := by rw [q3']; rfl
      go_wp2_with fail
      refine (K2 _ H1).mono ?_
      rintro e w2 ⟨rfl, hb2⟩
      have hb2' := hb1.trans (hb2.mono hb1.size)
      clear a0 a1 a2 a3 a4 a5 a6 a7 a8 a9
      obtain ⟨H2, a0, a1, a2, a3, a4, a5, a6, a7, a8, a9⟩ := HC.out _ hb2'
      go_wp2_with fail
      refine (K3 _ H2).mono ?_
      rintro e w3 ⟨rfl, hb3⟩
      have hb3' := hb2'.trans (hb3.mono hb2'.size)
      go_wp2_with fail
      refine (K4 _ (HC.out _ hb3').1).mono ?_
      rintro e w4 ⟨rfl, hb4⟩
      have hb4' := hb3'.trans (hb4.mono hb3'.size)
      go_wp2_with fail
      go_ret
      exact ⟨rfl, (HC.out _ hb4').1⟩
    · have q2' : (h1 == 0) = false := beq_eq_false_iff_ne.2 q2
      have q2'' : (!(h1 == 0)) = true := by rw [q2']; rfl
      go_wp2_with fail
      refine (K2 _ H1).mono ?_
      rintro e w2 ⟨rfl, hb2⟩
      have hb2' := hb1.trans (hb2.mono hb1.size)
      clear a0 a1 a2 a3 a4 a5 a6 a7 a8 a9
      obtain ⟨H2, a0, a1, a2, a3, a4, a5, a6, a7, a8, a9⟩ := HC.out _ hb2'
      go_wp2_with fail
      refine (K4 _ H2).mono ?_
      rintro e w4 ⟨rfl, hb4⟩
      have hb4' := hb2'.trans (hb4.mono hb2'.size)
      go_wp2_with fail
      go_ret
      exact ⟨rfl, (HC.out _ hb4').1⟩
  · have q1' : (e0 == 0) = false := beq_eq_false_iff_ne.2 q1
    have q1'' : (!(e0 == 0)) = true := by rw [q1']; rfl
    go_wp2_with fail
    refine (K4 _ H1).mono ?_
    rintro e w4 ⟨rfl, hb4⟩
    have hb4' := hb1.trans (hb4.mono hb1.size)
    go_wp2_with fail
    go_ret
    exact ⟨rfl, (HC.out _ hb4').1⟩
set_option maxHeartbeats 8000000 in
set_option maxRecDepth 100000 in
theorem blind_calls (k : Nat) (A0 : Option Addr) (c0 : Nat) (l0 : List S44) (AB : Option Addr) (cB : Nat) (lB : List ByteArray) (AL : Option Addr) (cL : Nat) (lL : List ByteArray) (fa fd fq : Int) (AB2 : Option Addr) (cB2 : Nat) (lB2 : List ByteArray) (AL2 : Option Addr) (cL2 : Nat) (lL2 : List ByteArray) (fa2 fd2 fq2 : Int) (bs ls nb nl : List ByteArray) (h3 : Int) (x : Bool) (w : World)
    (hr0 : Kd.C k44 w A0 l0.length l0) (hc0 : l0.length ≤ c0) (hCB : Kd.C Kd.string w AB lB.length lB) (hcB : lB.length ≤ cB) (hCL : Kd.C Kd.string w AL lL.length lL) (hcL : lL.length ≤ cL) (hCB2 : Kd.C Kd.string w AB2 lB2.length lB2) (hcB2 : lB2.length ≤ cB2) (hCL2 : Kd.C Kd.string w AL2 lL2.length lL2) (hcL2 : lL2.length ≤ cL2) (hG : GT w)
    (hl : l0.length ≤ 64)
    (p1 : traits_Names.f k l0 = some (bs, ls, 0)) (p2 : traits_Fit.f k lB lL fa fd fq = some 0) (p3 : traits_Fit.f k lB2 lL2 fa2 fd2 fq2 = some 0) (p4 : tollbooklaw13_awake.f k = some true)
    (p5 : tollbooklaw13_named.f k lB lB2 bs = some nb) (p6 : tollbooklaw13_named.f k lL lL2 ls = some nl)
    (p7 : traits_Fit.f k nb nl (pickI (anyK 6 l0) fa fa2) (pickI (anyK 6 l0) fd fd2) (pickI (anyK 7 l0) fq fq2) = some h3)
    (p8 : h3 = 0 → traits_Holds.f k l0 lB lL fa fd fq = some (x, 0) ∧ traits_Holds.f k l0 nb nl (pickI (anyK 6 l0) fa fa2) (pickI (anyK 6 l0) fd fd2) (pickI (anyK 7 l0) fq fq2) = some (x, 0)) :
    Calls Tryz.prog 4 #[.slice A0 l0.length c0, .agg #[.slice AB lB.length cB, .slice AL lL.length cL, .int .i64 fa, .int .i64 fd, .int .i64 fq], .agg #[.slice AB2 lB2.length cB2, .slice AL2 lL2.length cL2, .int .i64 fa2, .int .i64 fd2, .int .i64 fq2]] w fun e w' => e = .returned (.bool true) ∧ Below w.heap.size w w' := by
  have K1 := fun (W : World) (hW : Below w.heap.size w W) => traits_Names.calls k A0 c0 l0 bs ls 0 W (Kd.C_below hr0 hW) hc0 p1 (hG.at hW)
  have K2 := fun (W : World) (hW : Below w.heap.size w W) => traits_Fit.calls k AB cB lB AL cL lL fa fd fq 0 W (Kd.C_below hCB hW) hcB (Kd.C_below hCL hW) hcL p2 (hG.at hW)
  have K3 := fun (W : World) (hW : Below w.heap.size w W) => traits_Fit.calls k AB2 cB2 lB2 AL2 cL2 lL2 fa2 fd2 fq2 0 W (Kd.C_below hCB2 hW) hcB2 (Kd.C_below hCL2 hW) hcL2 p3 (hG.at hW)
  have K4 := fun (W : World) (hW : Below w.heap.size w W) => tollbooklaw13_awake.calls k W p4 (hG.at hW)
  have K5 := fun (W : World) (A : Option Addr) (c : Nat) (hW : Below w.heap.size w W) (hX : Kd.C Kd.string W A bs.length bs) (hc : bs.length ≤ c) => tollbooklaw13_named.calls k AB cB lB AB2 cB2 lB2 A c bs nb W (Kd.C_below hCB hW) hcB (Kd.C_below hCB2 hW) hcB2 hX hc p5
  have K6 := fun (W : World) (A : Option Addr) (c : Nat) (hW : Below w.heap.size w W) (hX : Kd.C Kd.string W A ls.length ls) (hc : ls.length ≤ c) => tollbooklaw13_named.calls k AL cL lL AL2 cL2 lL2 A c ls nl W (Kd.C_below hCL hW) hcL (Kd.C_below hCL2 hW) hcL2 hX hc p6
  have K7 := fun (W : World) (A B : Option Addr) (c d : Nat) (hW : Below w.heap.size w W) (hX : Kd.C Kd.string W A nb.length nb) (hc : nb.length ≤ c) (hY : Kd.C Kd.string W B nl.length nl) (hd : nl.length ≤ d) => traits_Fit.calls k A c nb B d nl _ _ _ h3 W hX hc hY hd p7 (hG.at hW)
  have K8 := fun (W : World) (hW : Below w.heap.size w W) (e : h3 = 0) => traits_Holds.calls k A0 c0 l0 AB cB lB AL cL lL fa fd fq x 0 W (Kd.C_below hr0 hW) hc0 (Kd.C_below hCB hW) hcB (Kd.C_below hCL hW) hcL (p8 e).1 (hG.at hW)
  have K9 := fun (W : World) (A B : Option Addr) (c d : Nat) (hW : Below w.heap.size w W) (hX : Kd.C Kd.string W A nb.length nb) (hc : nb.length ≤ c) (hY : Kd.C Kd.string W B nl.length nl) (hd : nl.length ≤ d) (e : h3 = 0) => traits_Holds.calls k A0 c0 l0 A c nb B d nl _ _ _ x 0 W (Kd.C_below hr0 hW) hc0 hX hc hY hd (p8 e).2 (hG.at hW)
  clear hCB hCL hCB2 hCL2 hG p1 p2 p3 p4 p5 p6 p7 p8
  go_enter Tryz.func4, Tryz.ntmps4
  go_wp2_with fail
  obtain ⟨oF, hoF⟩ : ∃ o, o = Obj.cells #[.slice AB lB.length cB, .slice AL lL.length cL, .int .i64 fa, .int .i64 fd, .int .i64 fq] 25 := ⟨_, rfl⟩
  obtain ⟨oG, hoG⟩ : ∃ o, o = Obj.cells #[.slice AB2 lB2.length cB2, .slice AL2 lL2.length cL2, .int .i64 fa2, .int .i64 fd2, .int .i64 fq2] 25 := ⟨_, rfl⟩
  have hb0 := below_aa w oF oG
  have zF : ((w.alloc oF).alloc oG).heap[w.heap.size]? = some oF := blk_alloc (MapKept.heap_alloc w oF).1 _
  have zG := new_two w oF oG
  have HC : Hid (∀ W : World, Below ((w.alloc oF).alloc oG).heap.size ((w.alloc oF).alloc oG) W → Below w.heap.size w W ∧ W.cell? ⟨w.heap.size, 0, none⟩ = some (.slice AB lB.length cB) ∧ W.cell? ⟨w.heap.size, 1, none⟩ = some (.slice AL lL.length cL) ∧ W.cell? ⟨w.heap.size, 2, none⟩ = some (.int .i64 fa) ∧ W.cell? ⟨w.heap.size, 3, none⟩ = some (.int .i64 fd) ∧ W.cell? ⟨w.heap.size, 4, none⟩ = some (.int .i64 fq) ∧ W.cell? ⟨w.heap.size + 1, 0, none⟩ = some (.slice AB2 lB2.length cB2) ∧ W.cell? ⟨w.heap.size + 1, 1, none⟩ = some (.slice AL2 lL2.length cL2) ∧ W.cell? ⟨w.heap.size + 1, 2, none⟩ = some (.int .i64 fa2) ∧ W.cell? ⟨w.heap.size + 1, 3, none⟩ = some (.int .i64 fd2) ∧ W.cell? ⟨w.heap.size + 1, 4, none⟩ = some (.int .i64 fq2)) := Lib.hid fun W hW => by
    have e1 := blk_below zF hW
    have e2 := blk_below zG hW
    rw [hoF] at e1
    rw [hoG] at e2
    exact ⟨hb0.trans (hW.mono hb0.size), (Joins.cell_of_block e1 0).trans rfl, (Joins.cell_of_block e1 1).trans rfl, (Joins.cell_of_block e1 2).trans rfl, (Joins.cell_of_block e1 3).trans rfl, (Joins.cell_of_block e1 4).trans rfl, (Joins.cell_of_block e2 0).trans rfl, (Joins.cell_of_block e2 1).trans rfl, (Joins.cell_of_block e2 2).trans rfl, (Joins.cell_of_block e2 3).trans rfl, (Joins.cell_of_block e2 4).trans rfl⟩
  rw [← hoF, ← hoG]
  refine (K1 _ hb0).mono ?_
  rintro e w1 ⟨v1, u1, rfl, hR1, hS1, hb1⟩
  obtain ⟨A1, c1, rfl⟩ := Kd.R_slice hR1
  obtain ⟨D1, d1, rfl⟩ := Kd.R_slice hS1
  obtain ⟨_, hX1, hm1⟩ := rows_of hR1
  obtain ⟨_, hY1, hn1⟩ := rows_of hS1
  clear zF zG hR1 hS1
  obtain ⟨H1, a0, a1, a2, a3, a4, a5, a6, a7, a8, a9⟩ := HC.out _ hb1
  go_wp2_with fail
  refine (K2 _ H1).mono ?_
  rintro e w2 ⟨rfl, hb2⟩
  have hb2' := hb1.trans (hb2.mono hb1.size)
  have hX2 := Kd.C_below hX1 hb2
  have hY2 := Kd.C_below hY1 hb2
  clear a0 a1 a2 a3 a4 a5 a6 a7 a8 a9
  obtain ⟨H2, a0, a1, a2, a3, a4, a5, a6, a7, a8, a9⟩ := HC.out _ hb2'
  go_wp2_with fail
  refine (K3 _ H2).mono ?_
  rintro e w3 ⟨rfl, hb3⟩
  have hb3' := hb2'.trans (hb3.mono hb2'.size)
  have hX3 := Kd.C_below hX2 hb3
  have hY3 := Kd.C_below hY2 hb3
  clear a0 a1 a2 a3 a4 a5 a6 a7 a8 a9 hX1 hX2 hY1 hY2 H1 H2
  obtain ⟨H3, a0, a1, a2, a3, a4, a5, a6, a7, a8, a9⟩ := HC.out _ hb3'
  have hS : ∀ W : World, Below w3.heap.size w3 W → Below w3.heap.size w3 W ∧ W.cell? ⟨w.heap.size, 0, none⟩ = some (.slice AB lB.length cB) ∧ W.cell? ⟨w.heap.size, 1, none⟩ = some (.slice AL lL.length cL) ∧ W.cell? ⟨w.heap.size, 2, none⟩ = some (.int .i64 fa) ∧ W.cell? ⟨w.heap.size, 3, none⟩ = some (.int .i64 fd) ∧ W.cell? ⟨w.heap.size, 4, none⟩ = some (.int .i64 fq) ∧ W.cell? ⟨w.heap.size + 1, 0, none⟩ = some (.slice AB2 lB2.length cB2) ∧ W.cell? ⟨w.heap.size + 1, 1, none⟩ = some (.slice AL2 lL2.length cL2) ∧ W.cell? ⟨w.heap.size + 1, 2, none⟩ = some (.int .i64 fa2) ∧ W.cell? ⟨w.heap.size + 1, 3, none⟩ = some (.int .i64 fd2) ∧ W.cell? ⟨w.heap.size + 1, 4, none⟩ = some (.int .i64 fq2) := fun W hW => by
    obtain ⟨_, e0, e1, e2, e3, e4, e5, e6, e7, e8, e9⟩ := HC.out _ (hb3'.trans (hW.mono hb3'.size))
    exact ⟨hW, e0, e1, e2, e3, e4, e5, e6, e7, e8, e9⟩
  have HS := Lib.hid hS
  have hS5 : ∀ (W : World) (g : Nat) (u0 u1 u2 u3 u4 : Value), Below w3.heap.size w3 W → w3.heap.size ≤ g → Below w3.heap.size w3 (((((W.setCell ⟨g, 0, none⟩ u0).setCell ⟨g, 1, none⟩ u1).setCell ⟨g, 2, none⟩ u2).setCell ⟨g, 3, none⟩ u3).setCell ⟨g, 4, none⟩ u4) ∧ (((((W.setCell ⟨g, 0, none⟩ u0).setCell ⟨g, 1, none⟩ u1).setCell ⟨g, 2, none⟩ u2).setCell ⟨g, 3, none⟩ u3).setCell ⟨g, 4, none⟩ u4).cell? ⟨w.heap.size, 0, none⟩ = some (.slice AB lB.length cB) ∧ (((((W.setCell ⟨g, 0, none⟩ u0).setCell ⟨g, 1, none⟩ u1).setCell ⟨g, 2, none⟩ u2).setCell ⟨g, 3, none⟩ u3).setCell ⟨g, 4, none⟩ u4).cell? ⟨w.heap.size, 1, none⟩ = some (.slice AL lL.length cL) ∧ (((((W.setCell ⟨g, 0, none⟩ u0).setCell ⟨g, 1, none⟩ u1).setCell ⟨g, 2, none⟩ u2).setCell ⟨g, 3, none⟩ u3).setCell ⟨g, 4, none⟩ u4).cell? ⟨w.heap.size, 2, none⟩ = some (.int .i64 fa) ∧ (((((W.setCell ⟨g, 0, none⟩ u0).setCell ⟨g, 1, none⟩ u1).setCell ⟨g, 2, none⟩ u2).setCell ⟨g, 3, none⟩ u3).setCell ⟨g, 4, none⟩ u4).cell? ⟨w.heap.size, 3, none⟩ = some (.int .i64 fd) ∧ (((((W.setCell ⟨g, 0, none⟩ u0).setCell ⟨g, 1, none⟩ u1).setCell ⟨g, 2, none⟩ u2).setCell ⟨g, 3, none⟩ u3).setCell ⟨g, 4, none⟩ u4).cell? ⟨w.heap.size, 4, none⟩ = some (.int .i64 fq) ∧ (((((W.setCell ⟨g, 0, none⟩ u0).setCell ⟨g, 1, none⟩ u1).setCell ⟨g, 2, none⟩ u2).setCell ⟨g, 3, none⟩ u3).setCell ⟨g, 4, none⟩ u4).cell? ⟨w.heap.size + 1, 0, none⟩ = some (.slice AB2 lB2.length cB2) ∧ (((((W.setCell ⟨g, 0, none⟩ u0).setCell ⟨g, 1, none⟩ u1).setCell ⟨g, 2, none⟩ u2).setCell ⟨g, 3, none⟩ u3).setCell ⟨g, 4, none⟩ u4).cell? ⟨w.heap.size + 1, 1, none⟩ = some (.slice AL2 lL2.length cL2) ∧ (((((W.setCell ⟨g, 0, none⟩ u0).setCell ⟨g, 1, none⟩ u1).setCell ⟨g, 2, none⟩ u2).setCell ⟨g, 3, none⟩ u3).setCell ⟨g, 4, none⟩ u4).cell? ⟨w.heap.size + 1, 2, none⟩ = some (.int .i64 fa2) ∧ (((((W.setCell ⟨g, 0, none⟩ u0).setCell ⟨g, 1, none⟩ u1).setCell ⟨g, 2, none⟩ u2).setCell ⟨g, 3, none⟩ u3).setCell ⟨g, 4, none⟩ u4).cell? ⟨w.heap.size + 1, 3, none⟩ = some (.int .i64 fd2) ∧ (((((W.setCell ⟨g, 0, none⟩ u0).setCell ⟨g, 1, none⟩ u1).setCell ⟨g, 2, none⟩ u2).setCell ⟨g, 3, none⟩ u3).setCell ⟨g, 4, none⟩ u4).cell? ⟨w.heap.size + 1, 4, none⟩ = some (.int .i64 fq2) := fun W g u0 u1 u2 u3 u4 h1 hle => hS _ (((((h1.setCell hle _).setCell hle _).setCell hle _).setCell hle _).setCell hle _)
  have HS5 := Lib.hid hS5
  have hS30 := hS _ (Below.refl _ _)
  have hS3d := hS _ (below_drew (Below.refl _ _))
  clear hS hS5
  have HZ : Hid (∀ (W : World) (g : Nat), W.heap[g]? = some (.cells #[.slice none 0 0, .slice none 0 0, .int .i64 0, .int .i64 0, .int .i64 0] 25 (0, 0)) → (W.cell? ⟨g, 0, none⟩ = some (.slice none 0 0) ∧ W.cell? ⟨g, 1, none⟩ = some (.slice none 0 0) ∧ W.cell? ⟨g, 2, none⟩ = some (.int .i64 0) ∧ W.cell? ⟨g, 3, none⟩ = some (.int .i64 0) ∧ W.cell? ⟨g, 4, none⟩ = some (.int .i64 0)) ∧ (W.frozen? ⟨g, 0, none⟩ = false ∧ W.frozen? ⟨g, 1, none⟩ = false ∧ W.frozen? ⟨g, 2, none⟩ = false ∧ W.frozen? ⟨g, 3, none⟩ = false ∧ W.frozen? ⟨g, 4, none⟩ = false)) := Lib.hid fun W g e =>
    ⟨⟨(Joins.cell_of_block e 0).trans rfl, (Joins.cell_of_block e 1).trans rfl, (Joins.cell_of_block e 2).trans rfl, (Joins.cell_of_block e 3).trans rfl, (Joins.cell_of_block e 4).trans rfl⟩, ⟨Joins.unfrozen_of_block e 0, Joins.unfrozen_of_block e 1, Joins.unfrozen_of_block e 2, Joins.unfrozen_of_block e 3, Joins.unfrozen_of_block e 4⟩⟩
  have HN : Hid (∀ w4 : World, Below (w3.alloc (.cells #[.slice none 0 0, .slice none 0 0, .int .i64 0, .int .i64 0, .int .i64 0] 25)).drew.heap.size (w3.alloc (.cells #[.slice none 0 0, .slice none 0 0, .int .i64 0, .int .i64 0, .int .i64 0] 25)).drew w4 → w4.heap[w3.heap.size]? = some (.cells #[.slice none 0 0, .slice none 0 0, .int .i64 0, .int .i64 0, .int .i64 0] 25 (0, 0))) := Lib.hid fun w4 hb => (hb.block w3.heap.size (show w3.heap.size < (w3.alloc (.cells #[.slice none 0 0, .slice none 0 0, .int .i64 0, .int .i64 0, .int .i64 0] 25)).heap.size by simp)).trans (MapKept.heap_alloc w3 _).1
  have HN1 : Hid (∀ w4 : World, Below (w3.alloc (.cells #[.slice none 0 0, .slice none 0 0, .int .i64 0, .int .i64 0, .int .i64 0] 25)).heap.size (w3.alloc (.cells #[.slice none 0 0, .slice none 0 0, .int .i64 0, .int .i64 0, .int .i64 0] 25)) w4 → w4.heap[w3.heap.size]? = some (.cells #[.slice none 0 0, .slice none 0 0, .int .i64 0, .int .i64 0, .int .i64 0] 25 (0, 0))) := Lib.hid fun w4 hb => (hb.block w3.heap.size (by simp)).trans (MapKept.heap_alloc w3 _).1
  have HF : Hid (∀ w4 w5 : World, Below (w4.alloc (.cells #[.slice none 0 0, .slice none 0 0, .int .i64 0, .int .i64 0, .int .i64 0] 25)).heap.size (w4.alloc (.cells #[.slice none 0 0, .slice none 0 0, .int .i64 0, .int .i64 0, .int .i64 0] 25)) w5 → w5.heap[w4.heap.size]? = some (.cells #[.slice none 0 0, .slice none 0 0, .int .i64 0, .int .i64 0, .int .i64 0] 25 (0, 0))) := Lib.hid fun w4 w5 hb => (hb.block _ (by simp)).trans (MapKept.heap_alloc w4 _).1
  have HK : Hid (∀ (w4 w5 : World) (g : Nat), w4.heap[g]? = some (.cells #[.slice none 0 0, .slice none 0 0, .int .i64 0, .int .i64 0, .int .i64 0] 25 (0, 0)) → Below w4.heap.size w4 w5 → w5.heap[g]? = some (.cells #[.slice none 0 0, .slice none 0 0, .int .i64 0, .int .i64 0, .int .i64 0] 25 (0, 0))) := Lib.hid fun w4 w5 g e hb => (hb.block _ (Array.getElem?_eq_some_iff.1 e).1).trans e
  have KX := fun (W : World) (hW : Below w3.heap.size w3 W) => K5 W A1 c1 (H3.trans (hW.mono H3.size)) (Kd.C_below hX3 hW) hm1
  have KY := fun (W : World) (hW : Below w3.heap.size w3 W) => K6 W D1 d1 (H3.trans (hW.mono H3.size)) (Kd.C_below hY3 hW) hn1
  go_upto_region 4 with fail
  go_cut [10] (fun s10 wx => ∃ g A3 c3 A4 c4, s10 = .pointer (some ⟨g, 0, none⟩) ∧ w3.heap.size ≤ g ∧ wx.heap[g]? = some (.cells #[.slice A3 nb.length c3, .slice A4 nl.length c4, .int .i64 fa2, .int .i64 fd2, .int .i64 fq2] 25 (0, 0)) ∧ Kd.R Kd.string 9 wx w3.heap.size (fun k => k ≠ g) (.slice A3 nb.length c3) nb ∧ Kd.R Kd.string 9 wx w3.heap.size (fun k => k ≠ g) (.slice A4 nl.length c4) nl ∧ Below w3.heap.size w3 wx)
  case first =>
    go_region_held3 (fun w' => Below w3.heap.size w3 w' ∧ w'.cell? ⟨w.heap.size, 0, none⟩ = some (.slice AB lB.length cB) ∧ w'.cell? ⟨w.heap.size, 1, none⟩ = some (.slice AL lL.length cL) ∧ w'.cell? ⟨w.heap.size, 2, none⟩ = some (.int .i64 fa) ∧ w'.cell? ⟨w.heap.size, 3, none⟩ = some (.int .i64 fd) ∧ w'.cell? ⟨w.heap.size, 4, none⟩ = some (.int .i64 fq) ∧ w'.cell? ⟨w.heap.size + 1, 0, none⟩ = some (.slice AB2 lB2.length cB2) ∧ w'.cell? ⟨w.heap.size + 1, 1, none⟩ = some (.slice AL2 lL2.length cL2) ∧ w'.cell? ⟨w.heap.size + 1, 2, none⟩ = some (.int .i64 fa2) ∧ w'.cell? ⟨w.heap.size + 1, 3, none⟩ = some (.int .i64 fd2) ∧ w'.cell? ⟨w.heap.size + 1, 4, none⟩ = some (.int .i64 fq2))
      (first | with_reducible exact hS30 | with_reducible exact hS3d | with_reducible assumption | with_reducible exact HS5.out _ _ _ _ _ _ _ (by first | with_reducible assumption | exact And.left (by with_reducible assumption) | exact Below.alloc (by first | with_reducible assumption | exact And.left (by with_reducible assumption)) (Below.size (by first | with_reducible assumption | exact And.left (by with_reducible assumption))) _) (by first | exact Nat.le_refl _ | exact Below.size (by first | with_reducible assumption | exact And.left (by with_reducible assumption))) | exact HS.out _ (Below.alloc (Below.refl _ _) (Nat.le_refl _) _) | exact HS.out _ (below_drew (Below.alloc (Below.refl _ _) (Nat.le_refl _) _)) | exact HS.out _ (by first | with_reducible assumption | exact And.left (by with_reducible assumption) | exact Below.alloc (by first | with_reducible assumption | exact And.left (by with_reducible assumption)) (Below.size (by first | with_reducible assumption | exact And.left (by with_reducible assumption))) _) | go_keep)
      (first
        | (go_at_call 14; with_reducible refine (KX _ (by first | with_reducible assumption | exact And.left (by with_reducible assumption))).mono ?_; rintro e w4 ⟨v4, rfl, hR4, hb4⟩; obtain ⟨A3, c3, rfl⟩ := Kd.R_slice hR4; have hs4b := Below.trans (by first | with_reducible assumption | exact And.left (by with_reducible assumption)) (Below.mono hb4 (Below.size (by first | with_reducible assumption | exact And.left (by with_reducible assumption)))); have hs4 := HS.out _ hs4b; (first | (with_reducible (have z0 := HN.out _ hb4)) | (with_reducible (have z0 := HN1.out _ hb4)) | skip))
        | (go_at_call 14; with_reducible refine (KY _ (by first | with_reducible assumption | exact And.left (by with_reducible assumption))).mono ?_; rintro e w5 ⟨v5, rfl, hR5, hb5⟩; obtain ⟨A4, c4, rfl⟩ := Kd.R_slice hR5; have hs5b := Below.trans (by first | with_reducible assumption | exact And.left (by with_reducible assumption)) (Below.mono hb5 (Below.size (by first | with_reducible assumption | exact And.left (by with_reducible assumption)))); have hs5 := HS.out _ hs5b; (first | ((with_reducible (have z1 := HF.out _ _ hb5)); obtain ⟨⟨m0, m1, m2, m3, m4⟩, n0, n1, n2, n3, n4⟩ := HZ.out _ _ z1) | ((with_reducible (have z1 := HK.out _ _ _ z0 hb5)); obtain ⟨⟨m0, m1, m2, m3, m4⟩, n0, n1, n2, n3, n4⟩ := HZ.out _ _ z1) | skip)))
    · go_wp2_with fail
      go_meet
      case rel =>
        have q3 := hs4b.size
        have q5 := hs5b.size
        have hRa := Kd.R_mono (Kd.R_bound (Kd.R_below hR4 hb5)) (ok' := fun k => k ≠ w5.heap.size) (fun k hk => by have := hk.2.2.1; omega)
        have hRb := Kd.R_mono (Kd.R_bound hR5) (ok' := fun k => k ≠ w5.heap.size) (fun k hk => by have := hk.2.2.1; omega)
        exact ⟨w5.heap.size, A3, c3, A4, c4, rfl, q5, (MapKept.heap_alloc w5 _).1, Kd.R_alloc hRa _, Kd.R_lower (Kd.R_alloc hRb _) q3, hs5b.alloc q5 _⟩
    · go_wp2_with fail
      go_meet
      case rel =>
        have q3 := hs4b.size
        have q5 := hs5b.size
        have hRa := Kd.R_below (Kd.R_alloc (Kd.R_mono (Kd.R_bound hR4) (ok' := fun k => k ≠ w4.heap.size) (fun k hk => by have := hk.2.2.1; omega)) _) hb5
        have hRb := Kd.R_mono (Kd.R_bound hR5) (ok' := fun k => k ≠ w4.heap.size) (fun k hk => by have := hk.2.1; simp at this; omega)
        exact ⟨w4.heap.size, A3, c3, A4, c4, rfl, q3, Joins.block_setCell (i := 4) (Joins.block_setCell (i := 3) (Joins.block_setCell (i := 2) (Joins.block_setCell (i := 1) (Joins.block_setCell (i := 0) z1 _) _) _) _) _, R_far5 hRa _ _ _ _ _, R_far5 (Kd.R_lower hRb (by simp; omega)) _ _ _ _ _, ((((hs5b.setCell q3 _).setCell q3 _).setCell q3 _).setCell q3 _).setCell q3 _⟩
    · go_wp2_with fail
      go_meet
      case rel =>
        have q3 := hs4b.size
        have q5 := hs5b.size
        have hRa := Kd.R_below (Kd.R_mono (Kd.R_bound hR4) (ok' := fun k => k ≠ w3.heap.size) (fun k hk => by have := hk.2.1; simp at this; omega)) hb5
        have hRb := Kd.R_mono (Kd.R_bound hR5) (ok' := fun k => k ≠ w3.heap.size) (fun k hk => by have := hk.2.1; have q := (Array.getElem?_eq_some_iff.1 z0).1; omega)
        exact ⟨w3.heap.size, A3, c3, A4, c4, rfl, Nat.le_refl _, Joins.block_setCell (i := 4) (Joins.block_setCell (i := 3) (Joins.block_setCell (i := 2) (Joins.block_setCell (i := 1) (Joins.block_setCell (i := 0) z1 _) _) _) _) _, R_far5 (Kd.R_lower hRa (by simp)) _ _ _ _ _, R_far5 (Kd.R_lower hRb q3) _ _ _ _ _, ((((hs5b.setCell (Nat.le_refl _) _).setCell (Nat.le_refl _) _).setCell (Nat.le_refl _) _).setCell (Nat.le_refl _) _).setCell (Nat.le_refl _) _⟩
  case rest =>
    obtain ⟨g, A3, c3, A4, c4, rfl, hg, hz, hR3, hR4, hbc⟩ := hcut
    clear K5 K6 hX3 hY3 a0 a1 a2 a3 a4 a5 a6 a7 a8 a9
    have HW : Hid (∀ W : World, Below w3.heap.size w3 W → Below w.heap.size w W ∧ W.cell? ⟨w.heap.size, 0, none⟩ = some (.slice AB lB.length cB) ∧ W.cell? ⟨w.heap.size, 1, none⟩ = some (.slice AL lL.length cL) ∧ W.cell? ⟨w.heap.size, 2, none⟩ = some (.int .i64 fa) ∧ W.cell? ⟨w.heap.size, 3, none⟩ = some (.int .i64 fd) ∧ W.cell? ⟨w.heap.size, 4, none⟩ = some (.int .i64 fq)) := Lib.hid fun W hW => by
      obtain ⟨e, e0, e1, e2, e3, e4, _⟩ := HC.out _ (hb3'.trans (hW.mono hb3'.size))
      exact ⟨e, e0, e1, e2, e3, e4⟩
    go_wp2_with fail
    go_loopw [11] (fun v wr => ∃ q : Nat, v = .int .i64 q ∧ q ≤ l0.length ∧ wr.heap[g]? = some (.cells #[.slice A3 nb.length c3, .slice A4 nl.length c4, .int .i64 (pickI (anyK 6 (l0.take q)) fa fa2), .int .i64 (pickI (anyK 6 (l0.take q)) fd fd2), .int .i64 (pickI (anyK 7 (l0.take q)) fq fq2)] 25 (0, 0)) ∧ Kd.R Kd.string 9 wr w3.heap.size (fun k => k ≠ g) (.slice A3 nb.length c3) nb ∧ Kd.R Kd.string 9 wr w3.heap.size (fun k => k ≠ g) (.slice A4 nl.length c4) nl ∧ Below w3.heap.size w3 wr)
      (fun v _ => l0.length - (intOf v).toNat)
    case atStart => exact ⟨0, rfl, Nat.zero_le _, hz, hR3, hR4, hbc⟩
    case round =>
      obtain ⟨q, rfl, hq, hzq, hA, hB, hb⟩ := hrel
      obtain ⟨H, y0, y1, y2, y3, y4⟩ := HW.out _ hb
      by_cases c5 : q < l0.length
      · have hq0 : (0 : Int) ≤ (q : Int) := by omega
        have hq1 : (q : Int) < (l0.length : Int) := by omega
        have hq64 : (q : Int) < 64 := by omega
        obtain ⟨ad, hA0, x0, _, _, _, _, _⟩ := at_T44 (Kd.C_below hr0 H) (q : Int) hq0 hq1
        subst hA0
        obtain ⟨m, hm⟩ : ∃ m, rd_T44 l0 (q : Int) = m := ⟨_, rfl⟩
        rw [hm] at x0
        simp only [Int.toNat_natCast] at x0
        have z2 := (Joins.cell_of_block hzq 2).trans rfl
        have z3 := (Joins.cell_of_block hzq 3).trans rfl
        have z4 := (Joins.cell_of_block hzq 4).trans rfl
        have f2 := Joins.unfrozen_of_block hzq 2
        have f3 := Joins.unfrozen_of_block hzq 3
        have f4 := Joins.unfrozen_of_block hzq 4
        by_cases c6 : m.f0 = 6
        · have d1 : (m.f0 == 6) = true := beq_iff_eq.2 c6
          have d2 : (m.f0 == 7) = false := beq_eq_false_iff_ne.2 (by omega)
          have hbW : Below w3.heap.size w3 ((wr.setCell ⟨g, 2, none⟩ (.int .i64 fa)).setCell ⟨g, 3, none⟩ (.int .i64 fd)).drew := below_drew ((hb.setCell hg _).setCell hg _)
          obtain ⟨ad', hA1, x1, _, _, _, _, _⟩ := at_T44 (Kd.C_below hr0 (HW.out _ hbW).1) (q : Int) hq0 hq1
          obtain rfl : ad = ad' := Option.some.inj hA1
          rw [hm] at x1
          simp only [Int.toNat_natCast] at x1
          go_wp2_with fail
          go_region
          go_wp2_with fail
          go_roundw
          case rel => exact ⟨q + 1, by go_num, by omega, by rw [pick_yes 6 l0 q c5 (by rw [hm]; exact c6), pick_yes 6 l0 q c5 (by rw [hm]; exact c6), pick_no 7 l0 q c5 (by rw [hm]; omega)]; exact Joins.block_setCell (i := 3) (Joins.block_setCell (i := 2) hzq _) _, Kd.R_drew (Kd.R_far (Kd.R_far hA (fun _ hk => hk) _) (fun _ hk => hk) _), Kd.R_drew (Kd.R_far (Kd.R_far hB (fun _ hk => hk) _) (fun _ hk => hk) _), hbW⟩
          case measure => simp [intOf]; omega
        · have d1 : (m.f0 == 6) = false := beq_eq_false_iff_ne.2 c6
          by_cases c7 : m.f0 = 7
          · have d2 : (m.f0 == 7) = true := beq_iff_eq.2 c7
            go_wp2_with fail
            go_roundw
            case rel => exact ⟨q + 1, by go_num, by omega, by rw [pick_no 6 l0 q c5 (by rw [hm]; exact c6), pick_no 6 l0 q c5 (by rw [hm]; exact c6), pick_yes 7 l0 q c5 (by rw [hm]; exact c7)]; exact Joins.block_setCell (i := 4) hzq _, Kd.R_far hA (fun _ hk => hk) _, Kd.R_far hB (fun _ hk => hk) _, hb.setCell hg _⟩
            case measure => simp [intOf]; omega
          · have d2 : (m.f0 == 7) = false := beq_eq_false_iff_ne.2 c7
            go_wp2_with fail
            go_roundw
            case rel => exact ⟨q + 1, by go_num, by omega, by rw [pick_no 6 l0 q c5 (by rw [hm]; exact c6), pick_no 6 l0 q c5 (by rw [hm]; exact c6), pick_no 7 l0 q c5 (by rw [hm]; exact c7)]; exact hzq, hA, hB, hb⟩
            case measure => simp [intOf]; omega
      · obtain rfl : q = l0.length := by omega
        rw [List.take_length] at hzq
        clear y0 y1 y2 y3 y4
        obtain ⟨_, hXa, hma⟩ := rows_of hA
        obtain ⟨_, hXb, hmb⟩ := rows_of hB
        have hKF := K7 wr A3 A4 c3 c4 H hXa hma hXb hmb
        generalize pickI (anyK 6 l0) fa fa2 = sa at hzq hKF K9
        generalize pickI (anyK 6 l0) fd fd2 = sd at hzq hKF K9
        generalize pickI (anyK 7 l0) fq fq2 = sq at hzq hKF K9
        have HV : Hid (∀ W : World, Below wr.heap.size wr W → Below w.heap.size w W ∧ Kd.C Kd.string W A3 nb.length nb ∧ Kd.C Kd.string W A4 nl.length nl ∧ W.cell? ⟨g, 0, none⟩ = some (.slice A3 nb.length c3) ∧ W.cell? ⟨g, 1, none⟩ = some (.slice A4 nl.length c4) ∧ W.cell? ⟨g, 2, none⟩ = some (.int .i64 sa) ∧ W.cell? ⟨g, 3, none⟩ = some (.int .i64 sd) ∧ W.cell? ⟨g, 4, none⟩ = some (.int .i64 sq) ∧ W.cell? ⟨w.heap.size, 0, none⟩ = some (.slice AB lB.length cB) ∧ W.cell? ⟨w.heap.size, 1, none⟩ = some (.slice AL lL.length cL) ∧ W.cell? ⟨w.heap.size, 2, none⟩ = some (.int .i64 fa) ∧ W.cell? ⟨w.heap.size, 3, none⟩ = some (.int .i64 fd) ∧ W.cell? ⟨w.heap.size, 4, none⟩ = some (.int .i64 fq)) := Lib.hid fun W hW => by
          have e := blk_below hzq hW
          obtain ⟨e', e0, e1, e2, e3, e4⟩ := HW.out _ (hb.trans (hW.mono hb.size))
          exact ⟨e', Kd.C_below hXa hW, Kd.C_below hXb hW, (Joins.cell_of_block e 0).trans rfl, (Joins.cell_of_block e 1).trans rfl, (Joins.cell_of_block e 2).trans rfl, (Joins.cell_of_block e 3).trans rfl, (Joins.cell_of_block e 4).trans rfl, e0, e1, e2, e3, e4⟩
        obtain ⟨_, _, _, b0, b1, b2, b3, b4, _⟩ := HV.out _ (Below.refl _ _)
        clear K1 K2 K3 K7 hA hB hXa hXb hzq
        by_cases c7 : h3 = 0
        · subst c7
          have hxx : (x == x) = true := beq_self_eq_true x
          go_wp2_with fail
          refine hKF.mono ?_
          rintro e w5 ⟨rfl, hb5⟩
          obtain ⟨H5, r0, r1, b0, b1, b2, b3, b4, y0, y1, y2, y3, y4⟩ := HV.out _ hb5
          go_wp2_with fail
          refine (K8 _ H5 (by first | trivial | exact rfl)).mono ?_
          rintro e w6 ⟨rfl, hb6⟩
          have hb6' := hb5.trans (hb6.mono hb5.size)
          clear b0 b1 b2 b3 b4 y0 y1 y2 y3 y4
          obtain ⟨H6, r0, r1, b0, b1, b2, b3, b4, _⟩ := HV.out _ hb6'
          go_wp2_with fail
          refine (K9 _ A3 A4 c3 c4 H6 r0 hma r1 hmb (by first | trivial | exact rfl)).mono ?_
          rintro e w7 ⟨rfl, hb7⟩
          have hb7' := hb6'.trans (hb7.mono hb6'.size)
          clear b0 b1 b2 b3 b4
          go_wp2_with fail
          refine (K4 _ (HV.out _ hb7').1).mono ?_
          rintro e w8 ⟨rfl, hb8⟩
          have hb8' := hb7'.trans (hb8.mono hb7'.size)
          go_wp2_with fail
          go_ret
          exact ⟨rfl, (HV.out _ hb8').1⟩
        · have c7' : (h3 == 0) = false := beq_eq_false_iff_ne.2 c7
          have c7'' : (!(h3 == 0)) = true := by rw [c7']; rfl
          go_wp2_with fail
          refine hKF.mono ?_
          rintro e w5 ⟨rfl, hb5⟩
          go_wp2_with fail
          refine (K4 _ (HV.out _ hb5).1).mono ?_
          rintro e w6 ⟨rfl, hb6⟩
          have hb6' := hb5.trans (hb6.mono hb5.size)
          go_wp2_with fail
          go_ret
          exact ⟨rfl, (HV.out _ hb6').1⟩
end Go.Proofs.YtlboolhjfffppaaGreatDoor.PBLI
