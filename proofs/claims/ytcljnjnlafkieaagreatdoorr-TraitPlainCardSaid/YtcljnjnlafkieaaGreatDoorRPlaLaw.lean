/- The walk of TraitPlain: nodes made plain twice, held and named both ways. -/
import Derived.Test.YtcljnjnlafkieaaGreatDoorRPPLAx7
import Derived.Test.YtcljnjnlafkieaaGreatDoorRPPLAx8
import Derived.Test.YtcljnjnlafkieaaGreatDoorRPPLAx19
import Derived.Test.YtcljnjnlafkieaaGreatDoorRPPLAx6
import Derived.Test.YtcljnjnlafkieaaGreatDoorRPPLAx5
import Derived.Test.YtcljnjnlafkieaaGreatDoorRPPLAx17
import Derived.Test.YtcljnjnlafkieaaGreatDoorRPPLAx18
import Derived.RegionTactic
import Derived.BigRegion
import Derived.Deep.RegionHeld3
import Derived.Deep.DeepCutAuto
import Derived.Outline
namespace Go.Proofs.YtcljnjnlafkieaaGreatDoorR.PPLA
open Go.RowKit Go.Proofs.YtcljnjnlafkieaaGreatDoorRW.PrintWords Go.Proofs.YtcljnjnlafkieaaGreatDoorRW.PrintLast Go.Proofs.YtcljnjnlafkieaaGreatDoorRW.PrintMore
set_option linter.unusedVariables false
set_option linter.unusedSimpArgs false
theorem rows_of {α : Type} {d : Kd α} {e : Nat} {w : World} {base : Nat} {ok : Nat → Prop} {A : Option Addr} {n c : Nat} {xs : List α} (h : d.R e w base ok (.slice A n c) xs) : n = xs.length ∧ d.C w A xs.length xs ∧ xs.length ≤ c := by
  obtain ⟨h0, h1, h2⟩ := Kd.R_reads' h
  exact ⟨h0, h2, by omega⟩
theorem refused_calls (k : Nat) (A0 : Option Addr) (c0 : Nat) (l0 : List S45) (e0 ck : Int) (F G : Value) (w : World)
    (hF : ∃ x0 x1 x2 x3 x4, F = .agg #[x0, x1, x2, x3, x4]) (hF2 : ∃ x0 x1 x2 x3 x4, G = .agg #[x0, x1, x2, x3, x4])
    (hr0 : Kd.C k45 w A0 l0.length l0) (hc0 : l0.length ≤ c0) (hG : GT w)
    (p1 : traits_Plain.f k l0 = some ([], e0)) (p2 : traits_Check.f k l0 = some ck) (he : ¬ e0 = 0) (hk : (e0 == 3) = (ck == 0)) (p3 : tollbooklaw13_awake.f k = some true) :
    Calls Tryz.prog 4 #[.slice A0 l0.length c0, F, G] w fun e w' => e = .returned (.bool true) ∧ Below w.heap.size w w' := by
  obtain ⟨x0, x1, x2, x3, x4, rfl⟩ := hF
  obtain ⟨y0, y1, y2, y3, y4, rfl⟩ := hF2
  have heb : (e0 == 0) = false := beq_eq_false_iff_ne.2 he
  have K1 := fun (W : World) (hW : Below w.heap.size w W) => traits_Plain.calls k A0 c0 l0 [] e0 W (Kd.C_below hr0 hW) hc0 p1 (hG.at hW)
  have K2 := fun (W : World) (hW : Below w.heap.size w W) => traits_Check.calls k A0 c0 l0 ck W (Kd.C_below hr0 hW) hc0 p2 (hG.at hW)
  have K3 := fun (W : World) (hW : Below w.heap.size w W) => tollbooklaw13_awake.calls k W p3 (hG.at hW)
  clear hr0 hG p1 p2 p3
  go_enter Tryz.func4, Tryz.ntmps4
  go_wp2_with fail
  have hb0 := below_aa w (.cells #[x0, x1, x2, x3, x4] 35) (.cells #[y0, y1, y2, y3, y4] 35)
  refine (K1 _ hb0).mono ?_
  rintro e w1 ⟨v1, rfl, hR1, hb1⟩
  obtain ⟨A1, c1, rfl⟩ := Kd.R_slice hR1
  rw [List.length_nil]
  have hb1' := hb0.trans (hb1.mono hb0.size)
  go_wp2_with fail
  refine (K2 _ hb1').mono ?_
  rintro e w2 ⟨rfl, hb2⟩
  have hb2' := hb1'.trans (hb2.mono hb1'.size)
  go_wp2_with fail
  refine (K3 _ hb2').mono ?_
  rintro e w3 ⟨rfl, hb3⟩
  have hb3' := hb2'.trans (hb3.mono hb2'.size)
  go_wp2_with fail
  go_ret
  exact ⟨rfl, hb3'⟩
theorem plainok_calls (k : Nat) (A0 : Option Addr) (c0 : Nat) (l0 out : List S45) (bs ls : List ByteArray) (AB : Option Addr) (cB : Nat) (lB : List ByteArray) (AL : Option Addr) (cL : Nat) (lL : List ByteArray) (fa fd fq : Int) (AB2 : Option Addr) (cB2 : Nat) (lB2 : List ByteArray) (AL2 : Option Addr) (cL2 : Nat) (lL2 : List ByteArray) (fa2 fd2 fq2 : Int) (x y : Bool) (i j : Int) (w : World)
    (hr0 : Kd.C k45 w A0 l0.length l0) (hc0 : l0.length ≤ c0) (hCB : Kd.C Kd.string w AB lB.length lB) (hcB : lB.length ≤ cB) (hCL : Kd.C Kd.string w AL lL.length lL) (hcL : lL.length ≤ cL) (hCB2 : Kd.C Kd.string w AB2 lB2.length lB2) (hcB2 : lB2.length ≤ cB2) (hCL2 : Kd.C Kd.string w AL2 lL2.length lL2) (hcL2 : lL2.length ≤ cL2) (hG : GT w)
    (p1 : traits_Plain.f k l0 = some (out, 0)) (p2 : traits_Check.f k l0 = some 0) (p3 : traits_Plain.f k out = some (out, 0)) (p4 : traits_Check.f k out = some 0) (p5 : tollbookkit_SameNodes.f k out out = some true) (p6 : tollbooklaw13_single.f k out = some true) (hlen : out.length = 0 ↔ l0.length = 0)
    (p7 : traits_Holds.f k l0 lB lL fa fd fq = some (x, i)) (p8 : traits_Holds.f k out lB lL fa fd fq = some (x, i)) (p9 : traits_Holds.f k l0 lB2 lL2 fa2 fd2 fq2 = some (y, j)) (p10 : traits_Holds.f k out lB2 lL2 fa2 fd2 fq2 = some (y, j))
    (p11 : traits_Names.f k l0 = some (bs, ls, 0)) (p12 : traits_Names.f k out = some (bs, ls, 0)) (p13 : tollbookkit_SameTexts.f k bs bs = some true) (p14 : tollbookkit_SameTexts.f k ls ls = some true) (p15 : tollbooklaw13_awake.f k = some true) :
    Calls Tryz.prog 4 #[.slice A0 l0.length c0, .agg #[.slice AB lB.length cB, .slice AL lL.length cL, .int .i64 fa, .int .i64 fd, .int .i64 fq], .agg #[.slice AB2 lB2.length cB2, .slice AL2 lL2.length cL2, .int .i64 fa2, .int .i64 fd2, .int .i64 fq2]] w fun e w' => e = .returned (.bool true) ∧ Below w.heap.size w w' := by
  have K1 := fun (W : World) (hW : Below w.heap.size w W) => traits_Plain.calls k A0 c0 l0 out 0 W (Kd.C_below hr0 hW) hc0 p1 (hG.at hW)
  have K2 := fun (W : World) (hW : Below w.heap.size w W) => traits_Check.calls k A0 c0 l0 0 W (Kd.C_below hr0 hW) hc0 p2 (hG.at hW)
  have K7 := fun (W : World) (hW : Below w.heap.size w W) => traits_Holds.calls k A0 c0 l0 AB cB lB AL cL lL fa fd fq x i W (Kd.C_below hr0 hW) hc0 (Kd.C_below hCB hW) hcB (Kd.C_below hCL hW) hcL p7 (hG.at hW)
  have K9 := fun (W : World) (hW : Below w.heap.size w W) => traits_Holds.calls k A0 c0 l0 AB2 cB2 lB2 AL2 cL2 lL2 fa2 fd2 fq2 y j W (Kd.C_below hr0 hW) hc0 (Kd.C_below hCB2 hW) hcB2 (Kd.C_below hCL2 hW) hcL2 p9 (hG.at hW)
  have K11 := fun (W : World) (hW : Below w.heap.size w W) => traits_Names.calls k A0 c0 l0 bs ls 0 W (Kd.C_below hr0 hW) hc0 p11 (hG.at hW)
  have K15 := fun (W : World) (hW : Below w.heap.size w W) => tollbooklaw13_awake.calls k W p15 (hG.at hW)
  have KP := fun (W : World) (A : Option Addr) (c : Nat) (hW : Below w.heap.size w W) (hX : Kd.C k45 W A out.length out) (hc : out.length ≤ c) => traits_Plain.calls k A c out out 0 W hX hc p3 (hG.at hW)
  have KC := fun (W : World) (A : Option Addr) (c : Nat) (hW : Below w.heap.size w W) (hX : Kd.C k45 W A out.length out) (hc : out.length ≤ c) => traits_Check.calls k A c out 0 W hX hc p4 (hG.at hW)
  have KH := fun (W : World) (A : Option Addr) (c : Nat) (hW : Below w.heap.size w W) (hX : Kd.C k45 W A out.length out) (hc : out.length ≤ c) => traits_Holds.calls k A c out AB cB lB AL cL lL fa fd fq x i W hX hc (Kd.C_below hCB hW) hcB (Kd.C_below hCL hW) hcL p8 (hG.at hW)
  have KI := fun (W : World) (A : Option Addr) (c : Nat) (hW : Below w.heap.size w W) (hX : Kd.C k45 W A out.length out) (hc : out.length ≤ c) => traits_Holds.calls k A c out AB2 cB2 lB2 AL2 cL2 lL2 fa2 fd2 fq2 y j W hX hc (Kd.C_below hCB2 hW) hcB2 (Kd.C_below hCL2 hW) hcL2 p10 (hG.at hW)
  have KN := fun (W : World) (A : Option Addr) (c : Nat) (hW : Below w.heap.size w W) (hX : Kd.C k45 W A out.length out) (hc : out.length ≤ c) => traits_Names.calls k A c out bs ls 0 W hX hc p12 (hG.at hW)
  clear hr0 hCB hCL hCB2 hCL2 hG p1 p2 p3 p4 p7 p8 p9 p10 p11 p12 p15
  go_enter Tryz.func4, Tryz.ntmps4
  go_wp2_with fail
  obtain ⟨oF, hoF⟩ : ∃ o, o = Obj.cells #[.slice AB lB.length cB, .slice AL lL.length cL, .int .i64 fa, .int .i64 fd, .int .i64 fq] 35 := ⟨_, rfl⟩
  obtain ⟨oG, hoG⟩ : ∃ o, o = Obj.cells #[.slice AB2 lB2.length cB2, .slice AL2 lL2.length cL2, .int .i64 fa2, .int .i64 fd2, .int .i64 fq2] 35 := ⟨_, rfl⟩
  have hb0 := below_aa w oF oG
  have zF : ((w.alloc oF).alloc oG).heap[w.heap.size]? = some oF := blk_alloc (MapKept.heap_alloc w oF).1 _
  have zG := new_two w oF oG
  have HC : Hid (∀ W : World, Below ((w.alloc oF).alloc oG).heap.size ((w.alloc oF).alloc oG) W → Below w.heap.size w W ∧ W.cell? ⟨w.heap.size, 0, none⟩ = some (.slice AB lB.length cB) ∧ W.cell? ⟨w.heap.size, 1, none⟩ = some (.slice AL lL.length cL) ∧ W.cell? ⟨w.heap.size, 2, none⟩ = some (.int .i64 fa) ∧ W.cell? ⟨w.heap.size, 3, none⟩ = some (.int .i64 fd) ∧ W.cell? ⟨w.heap.size, 4, none⟩ = some (.int .i64 fq) ∧ W.cell? ⟨w.heap.size + 1, 0, none⟩ = some (.slice AB2 lB2.length cB2) ∧ W.cell? ⟨w.heap.size + 1, 1, none⟩ = some (.slice AL2 lL2.length cL2) ∧ W.cell? ⟨w.heap.size + 1, 2, none⟩ = some (.int .i64 fa2) ∧ W.cell? ⟨w.heap.size + 1, 3, none⟩ = some (.int .i64 fd2) ∧ W.cell? ⟨w.heap.size + 1, 4, none⟩ = some (.int .i64 fq2)) := Lib.hid fun W hW => by
    have e1 := blk_below zF hW
    have e2 := blk_below zG hW
    rw [hoF] at e1
    rw [hoG] at e2
    exact ⟨hb0.trans (hW.mono hb0.size), (Joins.cell_of_block e1 0).trans rfl, (Joins.cell_of_block e1 1).trans rfl, (Joins.cell_of_block e1 2).trans rfl, (Joins.cell_of_block e1 3).trans rfl, (Joins.cell_of_block e1 4).trans rfl, (Joins.cell_of_block e2 0).trans rfl, (Joins.cell_of_block e2 1).trans rfl, (Joins.cell_of_block e2 2).trans rfl, (Joins.cell_of_block e2 3).trans rfl, (Joins.cell_of_block e2 4).trans rfl⟩
  rw [← hoF, ← hoG]
  refine (K1 _ hb0).mono ?_
  rintro e w1 ⟨v1, rfl, hR1, hb1⟩
  obtain ⟨A1, c1, rfl⟩ := Kd.R_slice hR1
  have H1 := (HC.out _ hb1).1
  go_wp2_with fail
  refine (K2 _ H1).mono ?_
  rintro e w2 ⟨rfl, hb2⟩
  have hb2' := hb1.trans (hb2.mono hb1.size)
  have H2 := (HC.out _ hb2').1
  obtain ⟨_, hX2, hm2⟩ := rows_of (Kd.R_below hR1 hb2)
  go_wp2_with fail
  refine (KP _ A1 c1 H2 hX2 hm2).mono ?_
  rintro e w3 ⟨v3, rfl, hR3, hb3⟩
  obtain ⟨A3, c3, rfl⟩ := Kd.R_slice hR3
  have hb3' := hb2'.trans (hb3.mono hb2'.size)
  have H3 := (HC.out _ hb3').1
  have hX3 := Kd.C_below hX2 hb3
  obtain ⟨_, hY3, hn3⟩ := rows_of hR3
  go_wp2_with fail
  refine (KC _ A1 c1 H3 hX3 hm2).mono ?_
  rintro e w4 ⟨rfl, hb4⟩
  have hb4' := hb3'.trans (hb4.mono hb3'.size)
  have H4 := (HC.out _ hb4').1
  have hX4 := Kd.C_below hX3 hb4
  have hY4 := Kd.C_below hY3 hb4
  go_wp2_with fail
  refine (tollbookkit_SameNodes.calls k A3 c3 out A1 c1 out true w4 hY4 hn3 hX4 hm2 p5).mono ?_
  rintro e w5 ⟨rfl, hb5⟩
  replace hb5 : Below w4.heap.size w4 w5 := by first | exact hb5 | exact hb5.below
  have hb5' := hb4'.trans (hb5.mono hb4'.size)
  have hX5 := Kd.C_below hX4 hb5
  go_wp2_with fail
  refine (tollbooklaw13_single.calls k A1 c1 out true w5 hX5 hm2 p6).mono ?_
  rintro e w6 ⟨rfl, hb6⟩
  replace hb6 : Below w5.heap.size w5 w6 := by first | exact hb6 | exact hb6.below
  have hb6' := hb5'.trans (hb6.mono hb5'.size)
  have hX6 := Kd.C_below hX5 hb6
  obtain ⟨H6, a0, a1, a2, a3, a4, a5, a6, a7, a8, a9⟩ := HC.out _ hb6'
  have hlb : ((out.length : Int) == 0) = ((l0.length : Int) == 0) := by
    by_cases q : l0.length = 0
    · rw [q, hlen.2 q]
    · have q2 : ¬ out.length = 0 := fun h => q (hlen.1 h)
      rw [beq_eq_false_iff_ne.2 (by omega), beq_eq_false_iff_ne.2 (by omega)]
  have hld : decide ((out.length : Int) = 0) = decide ((l0.length : Int) = 0) := decide_eq_decide.2 (by omega)
  go_wp2_with fail
  have hxx : (x == x) = true := beq_self_eq_true x
  have hyy : (y == y) = true := beq_self_eq_true y
  have hii : (i == i) = true := beq_self_eq_true i
  have hjj : (j == j) = true := beq_self_eq_true j
  refine (K7 _ H6).mono ?_
  rintro e w7 ⟨rfl, hb7⟩
  have hb7' := hb6'.trans (hb7.mono hb6'.size)
  have hX7 := Kd.C_below hX6 hb7
  clear a0 a1 a2 a3 a4 a5 a6 a7 a8 a9
  obtain ⟨H7, a0, a1, a2, a3, a4, a5, a6, a7, a8, a9⟩ := HC.out _ hb7'
  go_wp2_with fail
  refine (KH _ A1 c1 H7 hX7 hm2).mono ?_
  rintro e w8 ⟨rfl, hb8⟩
  have hb8' := hb7'.trans (hb8.mono hb7'.size)
  have hX8 := Kd.C_below hX7 hb8
  clear a0 a1 a2 a3 a4 a5 a6 a7 a8 a9
  obtain ⟨H8, a0, a1, a2, a3, a4, a5, a6, a7, a8, a9⟩ := HC.out _ hb8'
  go_wp2_with fail
  refine (K9 _ H8).mono ?_
  rintro e w9 ⟨rfl, hb9⟩
  have hb9' := hb8'.trans (hb9.mono hb8'.size)
  have hX9 := Kd.C_below hX8 hb9
  clear a0 a1 a2 a3 a4 a5 a6 a7 a8 a9
  obtain ⟨H9, a0, a1, a2, a3, a4, a5, a6, a7, a8, a9⟩ := HC.out _ hb9'
  go_wp2_with fail
  refine (KI _ A1 c1 H9 hX9 hm2).mono ?_
  rintro e w10 ⟨rfl, hb10⟩
  have hb10' := hb9'.trans (hb10.mono hb9'.size)
  have hX10 := Kd.C_below hX9 hb10
  clear a0 a1 a2 a3 a4 a5 a6 a7 a8 a9
  have H10 := (HC.out _ hb10').1
  go_wp2_with fail
  refine (K11 _ H10).mono ?_
  rintro e w11 ⟨v11, u11, rfl, hR11, hS11, hb11⟩
  obtain ⟨A11, c11, rfl⟩ := Kd.R_slice hR11
  obtain ⟨D11, d11, rfl⟩ := Kd.R_slice hS11
  have hb11' := hb10'.trans (hb11.mono hb10'.size)
  have hX11 := Kd.C_below hX10 hb11
  have H11 := (HC.out _ hb11').1
  go_wp2_with fail
  refine (KN _ A1 c1 H11 hX11 hm2).mono ?_
  rintro e w12 ⟨v12, u12, rfl, hR12, hS12, hb12⟩
  obtain ⟨A12, c12, rfl⟩ := Kd.R_slice hR12
  obtain ⟨D12, d12, rfl⟩ := Kd.R_slice hS12
  have hb12' := hb11'.trans (hb12.mono hb11'.size)
  obtain ⟨_, hC4, hm4⟩ := rows_of (Kd.R_below hR11 hb12)
  obtain ⟨_, hD4, hn4⟩ := rows_of (Kd.R_below hS11 hb12)
  obtain ⟨_, hC5, hm5⟩ := rows_of hR12
  obtain ⟨_, hD5, hn5⟩ := rows_of hS12
  go_wp2_with fail
  refine (tollbookkit_SameTexts.calls k A11 c11 bs A12 c12 bs true w12 hC4 hm4 hC5 hm5 p13).mono ?_
  rintro e w13 ⟨rfl, hb13⟩
  replace hb13 : Below w12.heap.size w12 w13 := by first | exact hb13 | exact hb13.below
  have hb13' := hb12'.trans (hb13.mono hb12'.size)
  go_wp2_with fail
  refine (tollbookkit_SameTexts.calls k D11 d11 ls D12 d12 ls true w13 (Kd.C_below hD4 hb13) hn4 (Kd.C_below hD5 hb13) hn5 p14).mono ?_
  rintro e w14 ⟨rfl, hb14⟩
  replace hb14 : Below w13.heap.size w13 w14 := by first | exact hb14 | exact hb14.below
  have hb14' := hb13'.trans (hb14.mono hb13'.size)
  have H14 := (HC.out _ hb14').1
  go_wp2_with fail
  refine (K15 _ H14).mono ?_
  rintro e w15 ⟨rfl, hb15⟩
  have hb15' := hb14'.trans (hb15.mono hb14'.size)
  go_wp2_with fail
  go_ret
  exact ⟨rfl, (HC.out _ hb15').1⟩
end Go.Proofs.YtcljnjnlafkieaaGreatDoorR.PPLA
