/- The walk of the law of what is made plain: lent nodes, made plain and named both ways, as they were. -/
import Derived.Test.YtcljnjnlafkieaaGreatDoorRPPLNx3
import Derived.Test.YtcljnjnlafkieaaGreatDoorRPPLNx16
import Derived.Test.YtcljnjnlafkieaaGreatDoorRPPLNx15
import Derived.Test.YtcljnjnlafkieaaGreatDoorRPPLNx12
import Derived.Test.YtcljnjnlafkieaaGreatDoorRPPLNx14
import Derived.Test.YtcljnjnlafkieaaGreatDoorRPPLNx6
import Derived.Test.YtcljnjnlafkieaaGreatDoorRPPLNx13
import Derived.Test.YtcljnjnlafkieaaGreatDoorRPPLNx20
import Derived.RegionTactic
import Derived.BigRegion
import Derived.Deep.RegionHeld3
import Derived.Deep.DeepCutAuto
import Derived.Outline
namespace Go.Proofs.YtcljnjnlafkieaaGreatDoorR.PPLN
open Go.RowKit Go.Proofs.YtcljnjnlafkieaaGreatDoorRW.PrintWords Go.Proofs.YtcljnjnlafkieaaGreatDoorRW.PrintLast Go.Proofs.YtcljnjnlafkieaaGreatDoorRW.PrintMore
set_option linter.unusedVariables false
set_option linter.unusedSimpArgs false
theorem rows_of {α : Type} {d : Kd α} {e : Nat} {w : World} {base : Nat} {ok : Nat → Prop} {A : Option Addr} {n c : Nat} {xs : List α} (h : d.R e w base ok (.slice A n c) xs) : n = xs.length ∧ d.C w A xs.length xs ∧ xs.length ≤ c := by
  obtain ⟨h0, h1, h2⟩ := Kd.R_reads' h
  exact ⟨h0, h2, by omega⟩
theorem plains_calls (k : Nat) (A0 : Option Addr) (c0 : Nat) (l0 rN out : List S45) (e0 : Int) (bs ls : List ByteArray) (g0 : Int) (w : World)
    (hr0 : Kd.C k45 w A0 l0.length l0) (hc0 : l0.length ≤ c0) (hG : GT w)
    (p1 : tollbookkit_LentNodes.f k l0 = some rN) (t1 : rN.take l0.length = l0)
    (p2 : traits_Plain.f k l0 = some (out, e0)) (p3 : tollbookref13_Plain.f k l0 = some (out, e0))
    (p4 : traits_Names.f k l0 = some (bs, ls, g0)) (p5 : tollbookref13_Names.f k l0 = some (bs, ls, g0))
    (p6 : tollbookkit_SameNodes.f k out out = some true) (p7 : tollbookkit_SameTexts.f k bs bs = some true) (p8 : tollbookkit_SameTexts.f k ls ls = some true)
    (p9 : tollbookkit_KeptNodes.f k l0.length rN l0 = some true) (p10 : tollbooklaw13_awake.f k = some true) :
    Calls Tryz.prog 3 #[.slice A0 l0.length c0] w fun e w' => e = .returned (.bool true) ∧ Below w.heap.size w w' := by
  have hlN : l0.length ≤ rN.length := by have := congrArg List.length t1; rw [List.length_take] at this; omega
  go_enter Tryz.func3, Tryz.ntmps3
  go_wp2_with fail
  refine (tollbookkit_LentNodes.calls k A0 c0 l0 rN _ hr0 hc0 p1).mono ?_
  rintro e w1 ⟨A1, c1, rfl, hl1, hR1, hb1⟩
  obtain ⟨_, hX1, hm1⟩ := rows_of hR1
  have hX0 : Kd.C k45 w1 A1 l0.length l0 := by have := Kd.C_take (m := l0.length) hX1 hlN; rwa [t1] at this
  have hB0 : ∀ W : World, Below w1.heap.size w1 W → Below w.heap.size w W := fun W hW => hb1.trans (hW.mono hb1.size)
  have K2 := fun (W : World) (hW : Below w1.heap.size w1 W) => traits_Plain.calls k A1 c1 l0 out e0 W (Kd.C_below hX0 hW) (Nat.le_trans hlN hm1) p2 (hG.at (hB0 W hW))
  have K3 := fun (W : World) (hW : Below w1.heap.size w1 W) => tollbookref13_Plain.calls k A0 c0 l0 out e0 W (Kd.C_below hr0 (hB0 W hW)) hc0 p3
  have K4 := fun (W : World) (hW : Below w1.heap.size w1 W) => traits_Names.calls k A1 c1 l0 bs ls g0 W (Kd.C_below hX0 hW) (Nat.le_trans hlN hm1) p4 (hG.at (hB0 W hW))
  have K5 := fun (W : World) (hW : Below w1.heap.size w1 W) => tollbookref13_Names.calls k A0 c0 l0 bs ls g0 W (Kd.C_below hr0 (hB0 W hW)) hc0 p5
  have K9 := fun (W : World) (hW : Below w1.heap.size w1 W) => tollbookkit_KeptNodes.calls k A1 c1 l0.length rN A0 c0 l0 W (Kd.C_below hX1 hW) hm1 (Kd.C_below hr0 (hB0 W hW)) hc0 p9
  have K10 := fun (W : World) (hW : Below w1.heap.size w1 W) => tollbooklaw13_awake.calls k W p10 (hG.at (hB0 W hW))
  have HB := Lib.hid hB0
  clear hB0 hX0 hX1 hR1 hr0 hG p2 p3 p4 p5 p9 p10 t1 hlN hl1 hm1
  go_wp2_with fail
  refine (K2 _ (Below.refl _ _)).mono ?_
  rintro e w2 ⟨v2, rfl, hR2, hb2⟩
  obtain ⟨A2, c2, rfl⟩ := Kd.R_slice hR2
  go_wp2_with fail
  refine (K3 _ hb2).mono ?_
  rintro e w3 ⟨v3, rfl, hR3, hb3⟩
  obtain ⟨A3, c3, rfl⟩ := Kd.R_slice hR3
  have hb3' := hb2.trans (hb3.mono hb2.size)
  have hR2 := Kd.R_below hR2 hb3
  go_wp2_with fail
  refine (K4 _ hb3').mono ?_
  rintro e w4 ⟨v4, u4, rfl, hR4, hS4, hb4⟩
  obtain ⟨A4, c4, rfl⟩ := Kd.R_slice hR4
  obtain ⟨D4, d4, rfl⟩ := Kd.R_slice hS4
  have hb4' := hb3'.trans (hb4.mono hb3'.size)
  have hR2 := Kd.R_below hR2 hb4
  have hR3 := Kd.R_below hR3 hb4
  go_wp2_with fail
  refine (K5 _ hb4').mono ?_
  rintro e w5 ⟨v5, u5, rfl, hR5, hS5, hb5⟩
  obtain ⟨A5, c5, rfl⟩ := Kd.R_slice hR5
  obtain ⟨D5, d5, rfl⟩ := Kd.R_slice hS5
  have hb5' := hb4'.trans (hb5.mono hb4'.size)
  obtain ⟨_, hC2, hm2⟩ := rows_of (Kd.R_below hR2 hb5)
  obtain ⟨_, hC3, hm3⟩ := rows_of (Kd.R_below hR3 hb5)
  obtain ⟨_, hC4, hm4⟩ := rows_of (Kd.R_below hR4 hb5)
  obtain ⟨_, hD4, hn4⟩ := rows_of (Kd.R_below hS4 hb5)
  obtain ⟨_, hC5, hm5⟩ := rows_of hR5
  obtain ⟨_, hD5, hn5⟩ := rows_of hS5
  have K6 := fun (W : World) (hW : Below w5.heap.size w5 W) => tollbookkit_SameNodes.calls k A2 c2 out A3 c3 out true W (Kd.C_below hC2 hW) hm2 (Kd.C_below hC3 hW) hm3 p6
  have K7 := fun (W : World) (hW : Below w5.heap.size w5 W) => tollbookkit_SameTexts.calls k A4 c4 bs A5 c5 bs true W (Kd.C_below hC4 hW) hm4 (Kd.C_below hC5 hW) hm5 p7
  have K8 := fun (W : World) (hW : Below w5.heap.size w5 W) => tollbookkit_SameTexts.calls k D4 d4 ls D5 d5 ls true W (Kd.C_below hD4 hW) hn4 (Kd.C_below hD5 hW) hn5 p8
  clear K2 K3 K4 K5 hR2 hR3 hR4 hS4 hR5 hS5 hC2 hC3 hC4 hD4 hC5 hD5 p6 p7 p8 hm2 hm3 hm4 hn4 hm5 hn5
  go_wp2_with fail
  refine (K6 _ (Below.refl _ _)).mono ?_
  rintro e w6 ⟨rfl, hb6⟩
  replace hb6 : Below w5.heap.size w5 w6 := by first | exact hb6 | exact hb6.below
  go_wp2_with fail
  refine (K7 _ hb6).mono ?_
  rintro e w7 ⟨rfl, hb7⟩
  replace hb7 : Below w6.heap.size w6 w7 := by first | exact hb7 | exact hb7.below
  have hb7' := hb6.trans (hb7.mono hb6.size)
  go_wp2_with fail
  refine (K8 _ hb7').mono ?_
  rintro e w8 ⟨rfl, hb8⟩
  replace hb8 : Below w7.heap.size w7 w8 := by first | exact hb8 | exact hb8.below
  have hb8' := hb7'.trans (hb8.mono hb7'.size)
  have hb8w := hb5'.trans (hb8'.mono hb5'.size)
  go_wp2_with fail
  refine (K9 _ hb8w).mono ?_
  rintro e w9 ⟨rfl, hb9⟩
  replace hb9 : Below w8.heap.size w8 w9 := by first | exact hb9 | exact hb9.below
  have hb9' := hb8w.trans (hb9.mono hb8w.size)
  go_wp2_with fail
  refine (K10 _ hb9').mono ?_
  rintro e w10 ⟨rfl, hb10⟩
  replace hb10 : Below w9.heap.size w9 w10 := by first | exact hb10 | exact hb10.below
  have hb10' := hb9'.trans (hb10.mono hb9'.size)
  go_wp2_with fail
  go_ret
  exact ⟨rfl, HB.out _ hb10'⟩
end Go.Proofs.YtcljnjnlafkieaaGreatDoorR.PPLN
