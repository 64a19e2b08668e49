-- Written by this session's program (wip/tools/pr.py over the kit's print).
import Derived.Test.YtlboolhjfffppaaGreatDoorPh
import Derived.Test.YtlboolhjfffppaaGreatDoorPBLIx0
import Derived.Test.YtlboolhjfffppaaGreatDoorPBLIx15
namespace Go.Proofs.YtlboolhjfffppaaGreatDoor.PBLI
open Go.RowKit Go.Proofs.YtlboolhjfffppaaGreatDoorW.PrintWords Go.Proofs.YtlboolhjfffppaaGreatDoorW.PrintLast Go.Proofs.YtlboolhjfffppaaGreatDoorW.PrintMore
attribute [local go_sem] max2_int min2_int max_two min_two max_three min_three max_four min_four
set_option linter.unusedVariables false
set_option linter.unusedSimpArgs false
mutual
def tollbooklaw13_named.l0 : Nat → List ByteArray → List ByteArray → List ByteArray → List ByteArray → Int → Int → Option (List ByteArray)
 | 0, _, _, _, _, _, _ => none
 | k + 1, x0, x1, x2, x7, x8, x9 => if x8 < (x0.length : Int) then (tollbooklaw13_named.j1 k x0 x1 x2 x7 x8 x9 true) else (tollbooklaw13_named.j1 k x0 x1 x2 x7 x8 x9 (decide (x9 < (x1.length : Int))))
def tollbooklaw13_named.j1 : Nat → List ByteArray → List ByteArray → List ByteArray → List ByteArray → Int → Int → Bool → Option (List ByteArray)
 | 0, _, _, _, _, _, _, _ => none
 | k + 1, x0, x1, x2, x7, x8, x9, x19 => if x19 = true then (if x9 ≥ (x1.length : Int) then (tollbooklaw13_named.j2 k x0 x1 x2 x7 x8 x9 true) else (if x8 < (x0.length : Int) then (if 0 ≤ x8 then (if 0 ≤ x9 then (if x9 < (x1.length : Int) then (tollbooklaw13_named.j2 k x0 x1 x2 x7 x8 x9 (!(Op.bytesLess ((rdOf ByteArray.empty x1 x9).toList) ((rdOf ByteArray.empty x0 x8).toList)))) else (none)) else (none)) else (none)) else (tollbooklaw13_named.j2 k x0 x1 x2 x7 x8 x9 false))) else (some x7)
def tollbooklaw13_named.j2 : Nat → List ByteArray → List ByteArray → List ByteArray → List ByteArray → Int → Int → Bool → Option (List ByteArray)
 | 0, _, _, _, _, _, _, _ => none
 | k + 1, x0, x1, x2, x7, x8, x9, x40 => if x40 = true then (if 0 ≤ x8 then (if x8 < (x0.length : Int) then ((tollbooklaw13_has.f k x2 (rdOf ByteArray.empty x0 x8)).bind fun t280 => (if t280 = true then (if x7.length < 8796093022208 then (tollbooklaw13_named.j3 k x0 x1 x2 (x7 ++ [rdOf ByteArray.empty x0 x8]) x8 x9) else (none)) else (tollbooklaw13_named.j3 k x0 x1 x2 x7 x8 x9))) else (none)) else (none)) else (if 0 ≤ x9 then (if x9 < (x1.length : Int) then ((tollbooklaw13_has.f k x2 (rdOf ByteArray.empty x1 x9)).bind fun t294 => (if t294 = true then (tollbooklaw13_named.l0 k x0 x1 x2 x7 x8 (wrap64 (x9 + 1))) else (if x7.length < 8796093022208 then (tollbooklaw13_named.l0 k x0 x1 x2 (x7 ++ [rdOf ByteArray.empty x1 x9]) x8 (wrap64 (x9 + 1))) else (none)))) else (none)) else (none))
def tollbooklaw13_named.j3 : Nat → List ByteArray → List ByteArray → List ByteArray → List ByteArray → Int → Int → Option (List ByteArray)
 | 0, _, _, _, _, _, _ => none
 | k + 1, x0, x1, x2, x7, x8, x9 => if x9 < (x1.length : Int) then (if 0 ≤ x9 then (if 0 ≤ x8 then (if x8 < (x0.length : Int) then (tollbooklaw13_named.j4 k x0 x1 x2 x7 x8 x9 ((rdOf ByteArray.empty x1 x9).toList == (rdOf ByteArray.empty x0 x8).toList)) else (none)) else (none)) else (none)) else (tollbooklaw13_named.j4 k x0 x1 x2 x7 x8 x9 false)
def tollbooklaw13_named.j4 : Nat → List ByteArray → List ByteArray → List ByteArray → List ByteArray → Int → Int → Bool → Option (List ByteArray)
 | 0, _, _, _, _, _, _, _ => none
 | k + 1, x0, x1, x2, x7, x8, x9, x68 => if x68 = true then (if 0 ≤ x9 then (if x9 < (x1.length : Int) then ((tollbooklaw13_has.f k x2 (rdOf ByteArray.empty x1 x9)).bind fun t288 => (if t288 = true then (tollbooklaw13_named.l0 k x0 x1 x2 x7 (wrap64 (x8 + 1)) (wrap64 (x9 + 1))) else (if x7.length < 8796093022208 then (tollbooklaw13_named.l0 k x0 x1 x2 (x7 ++ [rdOf ByteArray.empty x1 x9]) (wrap64 (x8 + 1)) (wrap64 (x9 + 1))) else (none)))) else (none)) else (none)) else (tollbooklaw13_named.l0 k x0 x1 x2 x7 (wrap64 (x8 + 1)) x9)
end
def tollbooklaw13_named.f (k : Nat) (l0 : List ByteArray) (l1 : List ByteArray) (l2 : List ByteArray) : Option (List ByteArray) := tollbooklaw13_named.l0 k l0 l1 l2 ([] : List ByteArray) 0 0
theorem le_texts (a b : List UInt8) (c : Bool) (hc : c = decide (a = b)) : (Op.bytesLess a b || c) = !Op.bytesLess b a := by
 rw [bytesLess_eq, bytesLess_eq, hc]
 by_cases h : b < a
 ·rw [decide_eq_true h, decide_eq_false (List.lt_asymm h), decide_eq_false (fun e => by subst e; exact List.lt_irrefl _ h)]; rfl
 ·rw [decide_eq_false h]
  rcases Classical.em (a = b) with e | e
  ·rw [decide_eq_true e, Bool.or_true]; rfl
  ·have hle : a ≤ b := List.not_lt.1 h
   have : a < b := by
    refine Classical.byContradiction fun h2 => e (List.le_antisymm hle (List.not_lt.1 h2))
   rw [decide_eq_true this]; rfl
set_option maxHeartbeats 8000000 in
set_option maxRecDepth 100000 in
theorem tollbooklaw13_named.calls (k : Nat) (A0 : Option Addr) (c0 : Nat) (l0 : List ByteArray) (A1 : Option Addr) (c1 : Nat) (l1 : List ByteArray) (A2 : Option Addr) (c2 : Nat) (l2 : List ByteArray) (r : List ByteArray) (w : World) (hr0 : Kd.C Kd.string w A0 l0.length l0) (hc0 : l0.length ≤ c0) (hr1 : Kd.C Kd.string w A1 l1.length l1) (hc1 : l1.length ≤ c1) (hr2 : Kd.C Kd.string w A2 l2.length l2) (hc2 : l2.length ≤ c2) (h : tollbooklaw13_named.f k l0 l1 l2 = some r) :
  Calls Tryz.prog 14 #[.slice A0 l0.length c0, .slice A1 l1.length c1, .slice A2 l2.length c2] w fun e w' => ∃ v0_ : Value, e = .returned (v0_) ∧ Kd.R Kd.string 9 w' w.heap.size (fun _ => True) v0_ r ∧ Below w.heap.size w w' := by
 have HR0 := Aside0.mk hr0
 have HC0 := Aside0.mk hc0
 clear hr0 hc0
 have HR1 := Aside0.mk hr1
 have HC1 := Aside0.mk hc1
 clear hr1 hc1
 have HR2 := Aside0.mk hr2
 have HC2 := Aside0.mk hc2
 clear hr2 hc2
 have HB := Aside0.mk (Below.refl w.heap.size w)
 have H : (tollbooklaw13_named.l0 k l0 l1 l2 ([] : List ByteArray) 0 0) = some r := h
 clear h
 have H' := Aside0.mk H
 clear H
 go_enter Tryz.func14, Tryz.ntmps14
 go_wp2
 repeat (go_quiet (fail); try go_wp2)
 go_loopg [7, 8, 9] k (fun kq v7 v8 v9 w' => ∃ (x7_1 : List ByteArray) (x8_1 : Int) (x9_1 : Int), v8 = .int .i64 x8_1 ∧ v9 = .int .i64 x9_1 ∧ Aside0 (tollbooklaw13_named.l0 kq l0 l1 l2 x7_1 x8_1 x9_1 = some r) ∧ Aside0 (kq ≤ k) ∧ Aside0 (Kd.R Kd.string 9 w' w.heap.size (fun _ => True) v7 x7_1) ∧ Aside0 (Below w.heap.size w w'))
 case atStart => exact ⟨(([] : List ByteArray)), (0), (0), (by first | rfl | (simp; exact le_texts _ _ _ (by rw [Bool.eq_iff_iff]; simp)) | (simp [*]; exact le_texts _ _ _ (by rw [Bool.eq_iff_iff]; simp)) | (simp; done) | (simp [*]; done)), (by first | rfl | (simp; exact le_texts _ _ _ (by rw [Bool.eq_iff_iff]; simp)) | (simp [*]; exact le_texts _ _ _ (by rw [Bool.eq_iff_iff]; simp)) | (simp; done) | (simp [*]; done)), H', ⟨Nat.le_refl _⟩, ⟨rn_⟩, ⟨(hb0_ HB.out)⟩⟩
 case round =>
  clear H'
  try clear c1
  try clear c2
  try clear p2
  obtain ⟨x7_1, x8_1, x9_1, rfl, rfl, HA, HK1, HO_7, HB⟩ := hrel
  cases gk with
  | zero => exact absurd HA.out (by simp [tollbooklaw13_named.l0])
  | succ k1 =>
   have H := HA.out
   clear HA
   simp only [tollbooklaw13_named.l0] at H
   have HC4 := Aside0.mk H
   clear H
   go_upto_region 3 with (fail)
   repeat (go_quiet (fail); go_upto_region 3 with (fail))
   go_cut [19] (fun v19 wc => ∃ (kq : Nat) (x19_3 : Bool), v19 = .bool x19_3 ∧ Aside0 (tollbooklaw13_named.j1 kq l0 l1 l2 x7_1 x8_1 x9_1 x19_3 = some r) ∧ Aside0 (kq ≤ k1) ∧ Aside0 (Kd.R Kd.string 9 wc w.heap.size (fun _ => True) u7 x7_1) ∧ Aside0 (Below w.heap.size w wc))
   case first =>
    have H := HC4.out
    clear HC4
    by_cases c5 : x8_1 < (l0.length : Int)
    ·rw [if_pos c5] at H
     have c5b0 : decide (x8_1 < (l0.length : Int)) = true := decide_eq_true c5
     clear c5
     (first | rw [c5b0] | (simp only [i64_w, i32_w]; rw [c5b0]) | skip)
     have H' := Aside0.mk H
     clear H
     go_wp2
     repeat (go_quiet (fail); try go_wp2)
     go_meet
     case rel => exact ⟨_, (true), (by first | rfl | (simp; exact le_texts _ _ _ (by rw [Bool.eq_iff_iff]; simp)) | (simp [*]; exact le_texts _ _ _ (by rw [Bool.eq_iff_iff]; simp)) | (simp; done) | (simp [*]; done)), H', ⟨by have := HK1.out; first | omega | exact Nat.le_refl _⟩, ⟨by (with_reducible repeat (first | apply Kd.R_alloc | apply Kd.R_drewN | apply Kd.R_drew)); exact HO_7.out⟩, ⟨(hb0_ HB.out)⟩⟩
    ·rw [if_neg c5] at H
     have c5b0 : decide (x8_1 < (l0.length : Int)) = false := decide_eq_false c5
     clear c5
     (first | rw [c5b0] | (simp only [i64_w, i32_w]; rw [c5b0]) | skip)
     have H' := Aside0.mk H
     clear H
     go_wp2
     repeat (go_quiet (fail); try go_wp2)
     go_meet
     case rel => exact ⟨_, (decide (x9_1 < (l1.length : Int))), (by first | rfl | (simp; exact le_texts _ _ _ (by rw [Bool.eq_iff_iff]; simp)) | (simp [*]; exact le_texts _ _ _ (by rw [Bool.eq_iff_iff]; simp)) | (simp; done) | (simp [*]; done)), H', ⟨by have := HK1.out; first | omega | exact Nat.le_refl _⟩, ⟨by (with_reducible repeat (first | apply Kd.R_alloc | apply Kd.R_drewN | apply Kd.R_drew)); exact HO_7.out⟩, ⟨(hb0_ HB.out)⟩⟩
   case rest =>
    clear HC4
    try clear c1
    try clear c2
    try clear p2
    try clear c5
    try clear c5b0
    try clear p2
    obtain ⟨kq, x19_3, rfl, HA, HJ3, HO_7, HB⟩ := hcut
    cases kq with
    | zero => exact absurd HA.out (by simp [tollbooklaw13_named.j1])
    | succ kj3 =>
     have H := HA.out
     clear HA
     simp only [tollbooklaw13_named.j1] at H
     by_cases c6 : x19_3 = true
     ·subst c6
      have H1 : (if x9_1 ≥ (l1.length : Int) then (tollbooklaw13_named.j2 kj3 l0 l1 l2 x7_1 x8_1 x9_1 true) else (if x8_1 < (l0.length : Int) then (if 0 ≤ x8_1 then (if 0 ≤ x9_1 then (if x9_1 < (l1.length : Int) then (tollbooklaw13_named.j2 kj3 l0 l1 l2 x7_1 x8_1 x9_1 (!(Op.bytesLess ((rdOf ByteArray.empty l1 x9_1).toList) ((rdOf ByteArray.empty l0 x8_1).toList)))) else (none)) else (none)) else (none)) else (tollbooklaw13_named.j2 kj3 l0 l1 l2 x7_1 x8_1 x9_1 false))) = some r := by rw [if_pos rfl] at H; exact H
      clear H
      have H := H1
      clear H1
      have HC7 := Aside0.mk H
      clear H
      go_upto_region 4 with (fail)
      repeat (go_quiet (fail); go_upto_region 4 with (fail))
      go_cut [40] (fun v40 wc => ∃ (kq : Nat) (x40_6 : Bool), v40 = .bool x40_6 ∧ Aside0 (tollbooklaw13_named.j2 kq l0 l1 l2 x7_1 x8_1 x9_1 x40_6 = some r) ∧ Aside0 (kq ≤ kj3) ∧ Aside0 (Kd.R Kd.string 9 wc w.heap.size (fun _ => True) u7 x7_1) ∧ Aside0 (Below w.heap.size w wc))
      case first =>
       have H := HC7.out
       clear HC7
       by_cases c8 : x9_1 ≥ (l1.length : Int)
       ·rw [if_pos c8] at H
        have c8b0 : decide ((l1.length : Int) ≤ x9_1) = true := decide_eq_true c8
        clear c8
        (first | rw [c8b0] | (simp only [i64_w, i32_w]; rw [c8b0]) | skip)
        have H' := Aside0.mk H
        clear H
        go_wp2
        repeat (go_quiet (fail); try go_wp2)
        go_meet
        case rel => exact ⟨_, (true), (by first | rfl | (simp; exact le_texts _ _ _ (by rw [Bool.eq_iff_iff]; simp)) | (simp [*]; exact le_texts _ _ _ (by rw [Bool.eq_iff_iff]; simp)) | (simp; done) | (simp [*]; done)), H', ⟨by have := HK1.out; have := HJ3.out; first | omega | exact Nat.le_refl _⟩, ⟨by (with_reducible repeat (first | apply Kd.R_alloc | apply Kd.R_drewN | apply Kd.R_drew)); exact HO_7.out⟩, ⟨(hb0_ HB.out)⟩⟩
       ·rw [if_neg c8] at H
        have c8b0 : decide ((l1.length : Int) ≤ x9_1) = false := decide_eq_false c8
        clear c8
        (first | rw [c8b0] | (simp only [i64_w, i32_w]; rw [c8b0]) | skip)
        by_cases c9 : x8_1 < (l0.length : Int)
        ·rw [if_pos c9] at H
         have c9b0 : decide (x8_1 < (l0.length : Int)) = true := decide_eq_true c9
         clear c9
         by_cases c10 : 0 ≤ x8_1
         ·rw [if_pos c10] at H
          have c10b0 : decide (0 ≤ x8_1) = true := decide_eq_true c10
          clear c10
          by_cases c11 : 0 ≤ x9_1
          ·rw [if_pos c11] at H
           have c11b0 : decide (0 ≤ x9_1) = true := decide_eq_true c11
           clear c11
           by_cases c12 : x9_1 < (l1.length : Int)
           ·rw [if_pos c12] at H
            have c12b0 : decide (x9_1 < (l1.length : Int)) = true := decide_eq_true c12
            clear c12
            have H' := Aside0.mk H
            clear H
            have p277 : 0 ≤ (x8_1 : Int) := od_
            have q277 : x8_1 < (l0.length : Int) := od_
            obtain ⟨ad277, e277, hx277_0⟩ := Kd.at_string HR0.out x8_1 p277 q277
            cases e277
            replace hx277_0 := (HB.out.cell (World.block_lt_of_cell? w _ hx277_0)).trans hx277_0
            replace p277 := eq_true p277
            replace q277 := eq_true q277
            have p278 : 0 ≤ (x9_1 : Int) := od_
            have q278 : x9_1 < (l1.length : Int) := od_
            obtain ⟨ad278, e278, hx278_0⟩ := Kd.at_string HR1.out x9_1 p278 q278
            cases e278
            replace hx278_0 := (HB.out.cell (World.block_lt_of_cell? w _ hx278_0)).trans hx278_0
            replace p278 := eq_true p278
            replace q278 := eq_true q278
            go_wp2
            repeat (go_quiet (fail); try go_wp2)
            go_meet
            case rel => exact ⟨_, (!(Op.bytesLess ((rdOf ByteArray.empty l1 x9_1).toList) ((rdOf ByteArray.empty l0 x8_1).toList))), (by first | rfl | (simp; exact le_texts _ _ _ (by rw [Bool.eq_iff_iff]; simp)) | (simp [*]; exact le_texts _ _ _ (by rw [Bool.eq_iff_iff]; simp)) | (simp; done) | (simp [*]; done)), H', ⟨by have := HK1.out; have := HJ3.out; first | omega | exact Nat.le_refl _⟩, ⟨by (with_reducible repeat (first | apply Kd.R_alloc | apply Kd.R_drewN | apply Kd.R_drew)); exact HO_7.out⟩, ⟨(hb0_ HB.out)⟩⟩
           ·rw [if_neg c12] at H
            exact absurd H (by simp)
          ·rw [if_neg c11] at H
           exact absurd H (by simp)
         ·rw [if_neg c10] at H
          exact absurd H (by simp)
        ·rw [if_neg c9] at H
         have c9b0 : decide (x8_1 < (l0.length : Int)) = false := decide_eq_false c9
         clear c9
         have H' := Aside0.mk H
         clear H
         go_wp2
         repeat (go_quiet (fail); try go_wp2)
         go_meet
         case rel => exact ⟨_, (false), (by first | rfl | (simp; exact le_texts _ _ _ (by rw [Bool.eq_iff_iff]; simp)) | (simp [*]; exact le_texts _ _ _ (by rw [Bool.eq_iff_iff]; simp)) | (simp; done) | (simp [*]; done)), H', ⟨by have := HK1.out; have := HJ3.out; first | omega | exact Nat.le_refl _⟩, ⟨by (with_reducible repeat (first | apply Kd.R_alloc | apply Kd.R_drewN | apply Kd.R_drew)); exact HO_7.out⟩, ⟨(hb0_ HB.out)⟩⟩
      case rest =>
       clear HC7
       try clear c1
       try clear c2
       try clear p2
       try clear q2
       try clear hx2
       try clear c5
       try clear c5b0
       try clear c6
       try clear c8
       try clear c8b0
       try clear c9
       try clear c9b0
       try clear c10
       try clear c10b0
       try clear c11
       try clear c11b0
       try clear c12
       try clear c12b0
       try clear hx277_0
       try clear hx278_0
       try clear p2
       try clear p277
       try clear p278
       try clear q277
       try clear q278
       obtain ⟨kq, x40_6, rfl, HA, HJ6, HO_7, HB⟩ := hcut
       cases kq with
       | zero => exact absurd HA.out (by simp [tollbooklaw13_named.j2])
       | succ kj6 =>
        have H := HA.out
        clear HA
        simp only [tollbooklaw13_named.j2] at H
        by_cases c13 : x40_6 = true
        ·subst c13
         have H1 : (if 0 ≤ x8_1 then (if x8_1 < (l0.length : Int) then ((tollbooklaw13_has.f kj6 l2 (rdOf ByteArray.empty l0 x8_1)).bind fun t280 => (if t280 = true then (if x7_1.length < 8796093022208 then (tollbooklaw13_named.j3 kj6 l0 l1 l2 (x7_1 ++ [rdOf ByteArray.empty l0 x8_1]) x8_1 x9_1) else (none)) else (tollbooklaw13_named.j3 kj6 l0 l1 l2 x7_1 x8_1 x9_1))) else (none)) else (none)) = some r := by rw [if_pos rfl] at H; exact H
         clear H
         have H := H1
         clear H1
         by_cases c14 : 0 ≤ x8_1
         ·rw [if_pos c14] at H
          have c14b0 : decide (0 ≤ x8_1) = true := decide_eq_true c14
          clear c14
          by_cases c15 : x8_1 < (l0.length : Int)
          ·rw [if_pos c15] at H
           have c15b0 : decide (x8_1 < (l0.length : Int)) = true := decide_eq_true c15
           clear c15
           replace H := Option.bind_eq_some_iff.mp H
           obtain ⟨t280, A160, H⟩ := H
           replace H : (if t280 = true then (if x7_1.length < 8796093022208 then (tollbooklaw13_named.j3 kj6 l0 l1 l2 (x7_1 ++ [rdOf ByteArray.empty l0 x8_1]) x8_1 x9_1) else (none)) else (tollbooklaw13_named.j3 kj6 l0 l1 l2 x7_1 x8_1 x9_1)) = some r := H
           have A16 := Aside0.mk A160
           clear A160
           have HC17 := Aside0.mk H
           clear H
           have p279 : 0 ≤ (x8_1 : Int) := od_
           have q279 : x8_1 < (l0.length : Int) := od_
           obtain ⟨ad279, e279, hx279_0⟩ := Kd.at_string HR0.out x8_1 p279 q279
           cases e279
           replace hx279_0 := (HB.out.cell (World.block_lt_of_cell? w _ hx279_0)).trans hx279_0
           replace p279 := eq_true p279
           replace q279 := eq_true q279
           go_upto_if 46 with (first | (go_at_call 30; (with_reducible refine (tollbooklaw13_has.calls kj6 _ _ l2 (rdOf ByteArray.empty l0 x8_1) t280 _ ?side1 ?side2 A16.out).mono ?_); (case side1 => repeat (first | exact (Kd.C_below HR2.out HB.out) | (with_reducible refine Kd.C_alloc ?_ _) | (with_reducible refine Kd.C_drewN ?_ _) | (with_reducible refine Kd.C_drew ?_))); (case side2 => exact HC2.out); rintro e w' ⟨rfl, ⟨nd, rfl⟩⟩; (try first | exact ⟨rfl, _, World.drewN_drewN _ _ _⟩ | exact ⟨rfl, _, Eq.trans (World.drewN_drewN _ _ _) (congrArg (World.drewN _) (Nat.add_assoc _ _ _))⟩)))
           repeat (go_quiet (first | (go_at_call 30; (with_reducible refine (tollbooklaw13_has.calls kj6 _ _ l2 (rdOf ByteArray.empty l0 x8_1) t280 _ ?side1 ?side2 A16.out).mono ?_); (case side1 => repeat (first | exact (Kd.C_below HR2.out HB.out) | (with_reducible refine Kd.C_alloc ?_ _) | (with_reducible refine Kd.C_drewN ?_ _) | (with_reducible refine Kd.C_drew ?_))); (case side2 => exact HC2.out); rintro e w' ⟨rfl, ⟨nd, rfl⟩⟩; (try first | exact ⟨rfl, _, World.drewN_drewN _ _ _⟩ | exact ⟨rfl, _, Eq.trans (World.drewN_drewN _ _ _) (congrArg (World.drewN _) (Nat.add_assoc _ _ _))⟩))); go_upto_if 46 with (first | (go_at_call 30; (with_reducible refine (tollbooklaw13_has.calls kj6 _ _ l2 (rdOf ByteArray.empty l0 x8_1) t280 _ ?side1 ?side2 A16.out).mono ?_); (case side1 => repeat (first | exact (Kd.C_below HR2.out HB.out) | (with_reducible refine Kd.C_alloc ?_ _) | (with_reducible refine Kd.C_drewN ?_ _) | (with_reducible refine Kd.C_drew ?_))); (case side2 => exact HC2.out); rintro e w' ⟨rfl, ⟨nd, rfl⟩⟩; (try first | exact ⟨rfl, _, World.drewN_drewN _ _ _⟩ | exact ⟨rfl, _, Eq.trans (World.drewN_drewN _ _ _) (congrArg (World.drewN _) (Nat.add_assoc _ _ _))⟩))))
           (try simp only [Act.put, List.setIfInBounds_toArray, List.set_cons_zero, List.set_cons_succ])
           go_cut [7] (fun v7 wc => ∃ (kq : Nat) (x7_16 : List ByteArray), Aside0 (tollbooklaw13_named.j3 kq l0 l1 l2 x7_16 x8_1 x9_1 = some r) ∧ Aside0 (kq ≤ kj6) ∧ Aside0 (Kd.R Kd.string 9 wc w.heap.size (fun _ => True) v7 x7_16) ∧ Aside0 (Below w.heap.size w wc))
           case first =>
            have H := HC17.out
            clear HC17
            by_cases c18 : t280 = true
            ·subst c18
             have H1 : (if x7_1.length < 8796093022208 then (tollbooklaw13_named.j3 kj6 l0 l1 l2 (x7_1 ++ [rdOf ByteArray.empty l0 x8_1]) x8_1 x9_1) else (none)) = some r := by rw [if_pos rfl] at H; exact H
             clear H
             have H := H1
             clear H1
             by_cases c19 : x7_1.length < 8796093022208
             ·rw [if_pos c19] at H
              have LMc19 := Aside0.mk c19
              clear c19
              obtain ⟨y282, hy282⟩ : ∃ y_ : List ByteArray, y_ = (x7_1 ++ [rdOf ByteArray.empty l0 x8_1]) := ⟨_, rfl⟩
              replace H : (tollbooklaw13_named.j3 kj6 l0 l1 l2 y282 x8_1 x9_1) = some r := by first | (rw [hy282]; with_reducible exact H) | (have H2_ := (Option.bind_some _ _).symm.trans H; rw [hy282]; with_reducible exact H2_) | (have H2_ := (Option.bind_some _ _).symm.trans H; with_reducible exact H2_) | with_reducible exact H | (rw [hy282]; exact H) | exact H
              have Ny282 := Aside0.mk hy282
              clear hy282
              have H' := Aside0.mk H
              clear H
              have p281 : 0 ≤ (x8_1 : Int) := od_
              have q281 : x8_1 < (l0.length : Int) := od_
              obtain ⟨ad281, e281, hx281_0⟩ := Kd.at_string HR0.out x8_1 p281 q281
              obtain rfl : ad279 = ad281 := (by injection e281)
              replace hx281_0 := (HB.out.cell (World.block_lt_of_cell? w _ hx281_0)).trans hx281_0
              replace p281 := eq_true p281
              replace q281 := eq_true q281
              go_wp2_with (first | ((with_reducible refine gate_builtin (b := .append) (xs := #[.tmp 47, .tmp 52]) rfl ?_); (try (refine gate_guard (by rfl) ?_; dsimp only)); at_builtin; refine Kd.R_append Kd.string (w0 := w) w.heap.size rfl (.tmp 47) (.tmp 52) 23 9 (.string ⟨#[]⟩) 16 rfl Tryz.underlying23 info9 rfl (by decide) (by omega) u7 x7_1 (rdOf ByteArray.empty l0 x8_1) [.string (rdOf ByteArray.empty l0 x8_1)] (fun _ => True) (fun _ => False) rfl rfl ?aP (fun _ hk => hk.elim) ?aF ?aO ?aB ?aS ?aL ?_; (case aP => exact rfl); (case aB => exact (hb0_ HB.out)); (case aF => exact (fun _ _ => trivial)); (case aO => exact (by (with_reducible repeat (first | apply Kd.R_alloc | apply Kd.R_drewN | apply Kd.R_drew)); exact HO_7.out)); (case aS => exact (below_size (hb0_ HB.out))); (case aL => have := LMc19.out; omega); intro v283 w20 ho hb hg hat; rw [← Ny282.out] at ho; have n0_ := Aside0.mk (hb); have n1_ := Aside0.mk (ho); clear HB; clear HO_7; have HB := n0_; have HO284 := n1_; clear n0_ n1_; clear ho hb hg hat))
              repeat (go_quiet (first | ((with_reducible refine gate_builtin (b := .append) (xs := #[.tmp 47, .tmp 52]) rfl ?_); (try (refine gate_guard (by rfl) ?_; dsimp only)); at_builtin; refine Kd.R_append Kd.string (w0 := w) w.heap.size rfl (.tmp 47) (.tmp 52) 23 9 (.string ⟨#[]⟩) 16 rfl Tryz.underlying23 info9 rfl (by decide) (by omega) u7 x7_1 (rdOf ByteArray.empty l0 x8_1) [.string (rdOf ByteArray.empty l0 x8_1)] (fun _ => True) (fun _ => False) rfl rfl ?aP (fun _ hk => hk.elim) ?aF ?aO ?aB ?aS ?aL ?_; (case aP => exact rfl); (case aB => exact (hb0_ HB.out)); (case aF => exact (fun _ _ => trivial)); (case aO => exact (by (with_reducible repeat (first | apply Kd.R_alloc | apply Kd.R_drewN | apply Kd.R_drew)); exact HO_7.out)); (case aS => exact (below_size (hb0_ HB.out))); (case aL => have := LMc19.out; omega); intro v283 w20 ho hb hg hat; rw [← Ny282.out] at ho; have n0_ := Aside0.mk (hb); have n1_ := Aside0.mk (ho); clear HB; clear HO_7; have HB := n0_; have HO284 := n1_; clear n0_ n1_; clear ho hb hg hat)); try go_wp2_with (first | ((with_reducible refine gate_builtin (b := .append) (xs := #[.tmp 47, .tmp 52]) rfl ?_); (try (refine gate_guard (by rfl) ?_; dsimp only)); at_builtin; refine Kd.R_append Kd.string (w0 := w) w.heap.size rfl (.tmp 47) (.tmp 52) 23 9 (.string ⟨#[]⟩) 16 rfl Tryz.underlying23 info9 rfl (by decide) (by omega) u7 x7_1 (rdOf ByteArray.empty l0 x8_1) [.string (rdOf ByteArray.empty l0 x8_1)] (fun _ => True) (fun _ => False) rfl rfl ?aP (fun _ hk => hk.elim) ?aF ?aO ?aB ?aS ?aL ?_; (case aP => exact rfl); (case aB => exact (hb0_ HB.out)); (case aF => exact (fun _ _ => trivial)); (case aO => exact (by (with_reducible repeat (first | apply Kd.R_alloc | apply Kd.R_drewN | apply Kd.R_drew)); exact HO_7.out)); (case aS => exact (below_size (hb0_ HB.out))); (case aL => have := LMc19.out; omega); intro v283 w20 ho hb hg hat; rw [← Ny282.out] at ho; have n0_ := Aside0.mk (hb); have n1_ := Aside0.mk (ho); clear HB; clear HO_7; have HB := n0_; have HO284 := n1_; clear n0_ n1_; clear ho hb hg hat)))
              go_meet
              case rel => exact ⟨_, (y282), H', ⟨by have := HK1.out; have := HJ3.out; have := HJ6.out; first | omega | exact Nat.le_refl _⟩, ⟨by (with_reducible repeat (first | apply Kd.R_alloc | apply Kd.R_drewN | apply Kd.R_drew)); exact HO284.out⟩, ⟨(hb0_ HB.out)⟩⟩
             ·rw [if_neg c19] at H
              exact absurd H (by simp)
            ·replace c18 := Bool.eq_false_iff.mpr c18
             subst c18
             have H1 : (tollbooklaw13_named.j3 kj6 l0 l1 l2 x7_1 x8_1 x9_1) = some r := by rw [if_neg (show ¬ (false = true) by decide)] at H; exact H
             clear H
             have H := H1
             clear H1
             have H' := Aside0.mk H
             clear H
             go_wp2
             repeat (go_quiet (fail); try go_wp2)
             go_meet
             case rel => exact ⟨_, (x7_1), H', ⟨by have := HK1.out; have := HJ3.out; have := HJ6.out; first | omega | exact Nat.le_refl _⟩, ⟨by (with_reducible repeat (first | apply Kd.R_alloc | apply Kd.R_drewN | apply Kd.R_drew)); exact HO_7.out⟩, ⟨(hb0_ HB.out)⟩⟩
           case rest =>
            clear HC17
            try clear c1
            try clear c2
            try clear p2
            try clear q2
            try clear hx2
            try clear c5
            try clear c5b0
            try clear c6
            try clear c8
            try clear c8b0
            try clear c9
            try clear c9b0
            try clear c10
            try clear c10b0
            try clear c11
            try clear c11b0
            try clear c12
            try clear c12b0
            try clear c13
            try clear c14
            try clear c14b0
            try clear c15
            try clear c15b0
            try clear c18
            try clear c19
            try clear hx277_0
            try clear hx278_0
            try clear hx279_0
            try clear hx281_0
            try clear p2
            try clear p277
            try clear p278
            try clear p279
            try clear p281
            try clear q2
            try clear q277
            try clear q278
            try clear q279
            try clear q281
            obtain ⟨kq, x7_16, HA, HJ16, HO_7, HB⟩ := hcut
            cases kq with
            | zero => exact absurd HA.out (by simp [tollbooklaw13_named.j3])
            | succ kj16 =>
             have H := HA.out
             clear HA
             simp only [tollbooklaw13_named.j3] at H
             have HC21 := Aside0.mk H
             clear H
             go_upto_region 7 with (fail)
             repeat (go_quiet (fail); go_upto_region 7 with (fail))
             go_cut [68] (fun v68 wc => ∃ (kq : Nat) (x68_20 : Bool), v68 = .bool x68_20 ∧ Aside0 (tollbooklaw13_named.j4 kq l0 l1 l2 x7_16 x8_1 x9_1 x68_20 = some r) ∧ Aside0 (kq ≤ kj16) ∧ Aside0 (Kd.R Kd.string 9 wc w.heap.size (fun _ => True) u7 x7_16) ∧ Aside0 (Below w.heap.size w wc))
             case first =>
              have H := HC21.out
              clear HC21
              by_cases c22 : x9_1 < (l1.length : Int)
              ·rw [if_pos c22] at H
               have c22b0 : decide (x9_1 < (l1.length : Int)) = true := decide_eq_true c22
               clear c22
               (first | rw [c22b0] | (simp only [i64_w, i32_w]; rw [c22b0]) | skip)
               by_cases c23 : 0 ≤ x9_1
               ·rw [if_pos c23] at H
                have c23b0 : decide (0 ≤ x9_1) = true := decide_eq_true c23
                clear c23
                by_cases c24 : 0 ≤ x8_1
                ·rw [if_pos c24] at H
                 have c24b0 : decide (0 ≤ x8_1) = true := decide_eq_true c24
                 clear c24
                 by_cases c25 : x8_1 < (l0.length : Int)
                 ·rw [if_pos c25] at H
                  have c25b0 : decide (x8_1 < (l0.length : Int)) = true := decide_eq_true c25
                  clear c25
                  have H' := Aside0.mk H
                  clear H
                  have p285 : 0 ≤ (x9_1 : Int) := od_
                  have q285 : x9_1 < (l1.length : Int) := od_
                  obtain ⟨ad285, e285, hx285_0⟩ := Kd.at_string HR1.out x9_1 p285 q285
                  cases e285
                  replace hx285_0 := (HB.out.cell (World.block_lt_of_cell? w _ hx285_0)).trans hx285_0
                  replace p285 := eq_true p285
                  replace q285 := eq_true q285
                  have p286 : 0 ≤ (x8_1 : Int) := od_
                  have q286 : x8_1 < (l0.length : Int) := od_
                  obtain ⟨ad286, e286, hx286_0⟩ := Kd.at_string HR0.out x8_1 p286 q286
                  obtain rfl : ad279 = ad286 := (by injection e286)
                  replace hx286_0 := (HB.out.cell (World.block_lt_of_cell? w _ hx286_0)).trans hx286_0
                  replace p286 := eq_true p286
                  replace q286 := eq_true q286
                  go_wp2
                  repeat (go_quiet (fail); try go_wp2)
                  go_meet
                  case rel => exact ⟨_, (((rdOf ByteArray.empty l1 x9_1).toList == (rdOf ByteArray.empty l0 x8_1).toList)), (by first | rfl | (simp; exact le_texts _ _ _ (by rw [Bool.eq_iff_iff]; simp)) | (simp [*]; exact le_texts _ _ _ (by rw [Bool.eq_iff_iff]; simp)) | (simp; done) | (simp [*]; done)), H', ⟨by have := HK1.out; have := HJ3.out; have := HJ6.out; have := HJ16.out; first | omega | exact Nat.le_refl _⟩, ⟨by (with_reducible repeat (first | apply Kd.R_alloc | apply Kd.R_drewN | apply Kd.R_drew)); exact HO_7.out⟩, ⟨(hb0_ HB.out)⟩⟩
                 ·rw [if_neg c25] at H
                  exact absurd H (by simp)
                ·rw [if_neg c24] at H
                 exact absurd H (by simp)
               ·rw [if_neg c23] at H
                exact absurd H (by simp)
              ·rw [if_neg c22] at H
               have c22b0 : decide (x9_1 < (l1.length : Int)) = false := decide_eq_false c22
               clear c22
               (first | rw [c22b0] | (simp only [i64_w, i32_w]; rw [c22b0]) | skip)
               have H' := Aside0.mk H
               clear H
               go_wp2
               repeat (go_quiet (fail); try go_wp2)
               go_meet
               case rel => exact ⟨_, (false), (by first | rfl | (simp; exact le_texts _ _ _ (by rw [Bool.eq_iff_iff]; simp)) | (simp [*]; exact le_texts _ _ _ (by rw [Bool.eq_iff_iff]; simp)) | (simp; done) | (simp [*]; done)), H', ⟨by have := HK1.out; have := HJ3.out; have := HJ6.out; have := HJ16.out; first | omega | exact Nat.le_refl _⟩, ⟨by (with_reducible repeat (first | apply Kd.R_alloc | apply Kd.R_drewN | apply Kd.R_drew)); exact HO_7.out⟩, ⟨(hb0_ HB.out)⟩⟩
             case rest =>
              clear HC21
              try clear c1
              try clear c2
              try clear p2
              try clear q2
              try clear hx2
              try clear c5
              try clear c5b0
              try clear c6
              try clear c8
              try clear c8b0
              try clear c9
              try clear c9b0
              try clear c10
              try clear c10b0
              try clear c11
              try clear c11b0
              try clear c12
              try clear c12b0
              try clear c13
              try clear c14
              try clear c14b0
              try clear c15
              try clear c15b0
              try clear c18
              try clear c19
              try clear c22
              try clear c22b0
              try clear c23
              try clear c23b0
              try clear c24
              try clear c24b0
              try clear c25
              try clear c25b0
              try clear hx277_0
              try clear hx278_0
              try clear hx279_0
              try clear hx281_0
              try clear hx285_0
              try clear hx286_0
              try clear p2
              try clear p277
              try clear p278
              try clear p279
              try clear p281
              try clear p285
              try clear p286
              try clear q2
              try clear q277
              try clear q278
              try clear q279
              try clear q281
              try clear q285
              try clear q286
              obtain ⟨kq, x68_20, rfl, HA, HJ20, HO_7, HB⟩ := hcut
              cases kq with
              | zero => exact absurd HA.out (by simp [tollbooklaw13_named.j4])
              | succ kj20 =>
               have H := HA.out
               clear HA
               simp only [tollbooklaw13_named.j4] at H
               by_cases c26 : x68_20 = true
               ·subst c26
                have H1 : (if 0 ≤ x9_1 then (if x9_1 < (l1.length : Int) then ((tollbooklaw13_has.f kj20 l2 (rdOf ByteArray.empty l1 x9_1)).bind fun t288 => (if t288 = true then (tollbooklaw13_named.l0 kj20 l0 l1 l2 x7_16 (wrap64 (x8_1 + 1)) (wrap64 (x9_1 + 1))) else (if x7_16.length < 8796093022208 then (tollbooklaw13_named.l0 kj20 l0 l1 l2 (x7_16 ++ [rdOf ByteArray.empty l1 x9_1]) (wrap64 (x8_1 + 1)) (wrap64 (x9_1 + 1))) else (none)))) else (none)) else (none)) = some r := by rw [if_pos rfl] at H; exact H
                clear H
                have H := H1
                clear H1
                by_cases c27 : 0 ≤ x9_1
                ·rw [if_pos c27] at H
                 have c27b0 : decide (0 ≤ x9_1) = true := decide_eq_true c27
                 clear c27
                 by_cases c28 : x9_1 < (l1.length : Int)
                 ·rw [if_pos c28] at H
                  have c28b0 : decide (x9_1 < (l1.length : Int)) = true := decide_eq_true c28
                  clear c28
                  replace H := Option.bind_eq_some_iff.mp H
                  obtain ⟨t288, A290, H⟩ := H
                  replace H : (if t288 = true then (tollbooklaw13_named.l0 kj20 l0 l1 l2 x7_16 (wrap64 (x8_1 + 1)) (wrap64 (x9_1 + 1))) else (if x7_16.length < 8796093022208 then (tollbooklaw13_named.l0 kj20 l0 l1 l2 (x7_16 ++ [rdOf ByteArray.empty l1 x9_1]) (wrap64 (x8_1 + 1)) (wrap64 (x9_1 + 1))) else (none))) = some r := H
                  have A29 := Aside0.mk A290
                  clear A290
                  by_cases c30 : t288 = true
                  ·subst c30
                   have H1 : (tollbooklaw13_named.l0 kj20 l0 l1 l2 x7_16 (wrap64 (x8_1 + 1)) (wrap64 (x9_1 + 1))) = some r := by rw [if_pos rfl] at H; exact H
                   clear H
                   have H := H1
                   clear H1
                   have H' := Aside0.mk H
                   clear H
                   have p287 : 0 ≤ (x9_1 : Int) := od_
                   have q287 : x9_1 < (l1.length : Int) := od_
                   obtain ⟨ad287, e287, hx287_0⟩ := Kd.at_string HR1.out x9_1 p287 q287
                   cases e287
                   replace hx287_0 := (HB.out.cell (World.block_lt_of_cell? w _ hx287_0)).trans hx287_0
                   replace p287 := eq_true p287
                   replace q287 := eq_true q287
                   go_wp2_with (first | (go_at_call 30; (with_reducible refine (tollbooklaw13_has.calls kj20 _ _ l2 (rdOf ByteArray.empty l1 x9_1) true _ ?side1 ?side2 A29.out).mono ?_); (case side1 => repeat (first | exact (Kd.C_below HR2.out HB.out) | (with_reducible refine Kd.C_alloc ?_ _) | (with_reducible refine Kd.C_drewN ?_ _) | (with_reducible refine Kd.C_drew ?_))); (case side2 => exact HC2.out); rintro e w' ⟨rfl, ⟨nd, rfl⟩⟩; (try first | exact ⟨rfl, _, World.drewN_drewN _ _ _⟩ | exact ⟨rfl, _, Eq.trans (World.drewN_drewN _ _ _) (congrArg (World.drewN _) (Nat.add_assoc _ _ _))⟩)))
                   repeat (go_quiet (first | (go_at_call 30; (with_reducible refine (tollbooklaw13_has.calls kj20 _ _ l2 (rdOf ByteArray.empty l1 x9_1) true _ ?side1 ?side2 A29.out).mono ?_); (case side1 => repeat (first | exact (Kd.C_below HR2.out HB.out) | (with_reducible refine Kd.C_alloc ?_ _) | (with_reducible refine Kd.C_drewN ?_ _) | (with_reducible refine Kd.C_drew ?_))); (case side2 => exact HC2.out); rintro e w' ⟨rfl, ⟨nd, rfl⟩⟩; (try first | exact ⟨rfl, _, World.drewN_drewN _ _ _⟩ | exact ⟨rfl, _, Eq.trans (World.drewN_drewN _ _ _) (congrArg (World.drewN _) (Nat.add_assoc _ _ _))⟩))); try go_wp2_with (first | (go_at_call 30; (with_reducible refine (tollbooklaw13_has.calls kj20 _ _ l2 (rdOf ByteArray.empty l1 x9_1) true _ ?side1 ?side2 A29.out).mono ?_); (case side1 => repeat (first | exact (Kd.C_below HR2.out HB.out) | (with_reducible refine Kd.C_alloc ?_ _) | (with_reducible refine Kd.C_drewN ?_ _) | (with_reducible refine Kd.C_drew ?_))); (case side2 => exact HC2.out); rintro e w' ⟨rfl, ⟨nd, rfl⟩⟩; (try first | exact ⟨rfl, _, World.drewN_drewN _ _ _⟩ | exact ⟨rfl, _, Eq.trans (World.drewN_drewN _ _ _) (congrArg (World.drewN _) (Nat.add_assoc _ _ _))⟩))))
                   go_roundg kj20
                   case measure => have := HK1.out; have := HJ3.out; have := HJ6.out; have := HJ16.out; have := HJ20.out; omega
                   case rel => exact ⟨(x7_16), (wrap64 (x8_1 + 1)), (wrap64 (x9_1 + 1)), (by first | rfl | (simp; exact le_texts _ _ _ (by rw [Bool.eq_iff_iff]; simp)) | (simp [*]; exact le_texts _ _ _ (by rw [Bool.eq_iff_iff]; simp)) | (simp; done) | (simp [*]; done)), (by first | rfl | (simp; exact le_texts _ _ _ (by rw [Bool.eq_iff_iff]; simp)) | (simp [*]; exact le_texts _ _ _ (by rw [Bool.eq_iff_iff]; simp)) | (simp; done) | (simp [*]; done)), H', ⟨by have := HK1.out; have := HJ3.out; have := HJ6.out; have := HJ16.out; have := HJ20.out; omega⟩, ⟨by (with_reducible repeat (first | apply Kd.R_alloc | apply Kd.R_drewN | apply Kd.R_drew)); exact HO_7.out⟩, ⟨(hb0_ HB.out)⟩⟩
                  ·replace c30 := Bool.eq_false_iff.mpr c30
                   subst c30
                   have H1 : (if x7_16.length < 8796093022208 then (tollbooklaw13_named.l0 kj20 l0 l1 l2 (x7_16 ++ [rdOf ByteArray.empty l1 x9_1]) (wrap64 (x8_1 + 1)) (wrap64 (x9_1 + 1))) else (none)) = some r := by rw [if_neg (show ¬ (false = true) by decide)] at H; exact H
                   clear H
                   have H := H1
                   clear H1
                   by_cases c31 : x7_16.length < 8796093022208
                   ·rw [if_pos c31] at H
                    have LMc31 := Aside0.mk c31
                    clear c31
                    obtain ⟨y290, hy290⟩ : ∃ y_ : List ByteArray, y_ = (x7_16 ++ [rdOf ByteArray.empty l1 x9_1]) := ⟨_, rfl⟩
                    replace H : (tollbooklaw13_named.l0 kj20 l0 l1 l2 y290 (wrap64 (x8_1 + 1)) (wrap64 (x9_1 + 1))) = some r := by first | (rw [hy290]; with_reducible exact H) | (have H2_ := (Option.bind_some _ _).symm.trans H; rw [hy290]; with_reducible exact H2_) | (have H2_ := (Option.bind_some _ _).symm.trans H; with_reducible exact H2_) | with_reducible exact H | (rw [hy290]; exact H) | exact H
                    have Ny290 := Aside0.mk hy290
                    clear hy290
                    have H' := Aside0.mk H
                    clear H
                    have p287 : 0 ≤ (x9_1 : Int) := od_
                    have q287 : x9_1 < (l1.length : Int) := od_
                    obtain ⟨ad287, e287, hx287_0⟩ := Kd.at_string HR1.out x9_1 p287 q287
                    cases e287
                    replace hx287_0 := (HB.out.cell (World.block_lt_of_cell? w _ hx287_0)).trans hx287_0
                    replace p287 := eq_true p287
                    replace q287 := eq_true q287
                    go_wp2_with (first | (go_at_call 30; (with_reducible refine (tollbooklaw13_has.calls kj20 _ _ l2 (rdOf ByteArray.empty l1 x9_1) false _ ?side1 ?side2 A29.out).mono ?_); (case side1 => repeat (first | exact (Kd.C_below HR2.out HB.out) | (with_reducible refine Kd.C_alloc ?_ _) | (with_reducible refine Kd.C_drewN ?_ _) | (with_reducible refine Kd.C_drew ?_))); (case side2 => exact HC2.out); rintro e w' ⟨rfl, ⟨nd, rfl⟩⟩; (try first | exact ⟨rfl, _, World.drewN_drewN _ _ _⟩ | exact ⟨rfl, _, Eq.trans (World.drewN_drewN _ _ _) (congrArg (World.drewN _) (Nat.add_assoc _ _ _))⟩); have p289 : 0 ≤ (x9_1 : Int) := od_; have q289 : x9_1 < (l1.length : Int) := od_; obtain ⟨ad289, e289, hx289_0⟩ := Kd.at_string HR1.out x9_1 p289 q289; obtain rfl : ad287 = ad289 := (by injection e289); replace hx289_0 := (HB.out.cell (World.block_lt_of_cell? w _ hx289_0)).trans hx289_0; replace p289 := eq_true p289; replace q289 := eq_true q289) | ((with_reducible refine gate_builtin (b := .append) (xs := #[.tmp 76, .tmp 81]) rfl ?_); (try (refine gate_guard (by rfl) ?_; dsimp only)); at_builtin; refine Kd.R_append Kd.string (w0 := w) w.heap.size rfl (.tmp 76) (.tmp 81) 23 9 (.string ⟨#[]⟩) 16 rfl Tryz.underlying23 info9 rfl (by decide) (by omega) u7 x7_16 (rdOf ByteArray.empty l1 x9_1) [.string (rdOf ByteArray.empty l1 x9_1)] (fun _ => True) (fun _ => False) rfl rfl ?aP (fun _ hk => hk.elim) ?aF ?aO ?aB ?aS ?aL ?_; (case aP => exact rfl); (case aB => exact (hb0_ HB.out)); (case aF => exact (fun _ _ => trivial)); (case aO => exact (by (with_reducible repeat (first | apply Kd.R_alloc | apply Kd.R_drewN | apply Kd.R_drew)); exact HO_7.out)); (case aS => exact (below_size (hb0_ HB.out))); (case aL => have := LMc31.out; omega); intro v291 w32 ho hb hg hat; rw [← Ny290.out] at ho; have n0_ := Aside0.mk (hb); have n1_ := Aside0.mk (ho); clear HB; clear HO_7; have HB := n0_; have HO292 := n1_; clear n0_ n1_; clear ho hb hg hat))
                    repeat (go_quiet (first | (go_at_call 30; (with_reducible refine (tollbooklaw13_has.calls kj20 _ _ l2 (rdOf ByteArray.empty l1 x9_1) false _ ?side1 ?side2 A29.out).mono ?_); (case side1 => repeat (first | exact (Kd.C_below HR2.out HB.out) | (with_reducible refine Kd.C_alloc ?_ _) | (with_reducible refine Kd.C_drewN ?_ _) | (with_reducible refine Kd.C_drew ?_))); (case side2 => exact HC2.out); rintro e w' ⟨rfl, ⟨nd, rfl⟩⟩; (try first | exact ⟨rfl, _, World.drewN_drewN _ _ _⟩ | exact ⟨rfl, _, Eq.trans (World.drewN_drewN _ _ _) (congrArg (World.drewN _) (Nat.add_assoc _ _ _))⟩); have p289 : 0 ≤ (x9_1 : Int) := od_; have q289 : x9_1 < (l1.length : Int) := od_; obtain ⟨ad289, e289, hx289_0⟩ := Kd.at_string HR1.out x9_1 p289 q289; obtain rfl : ad287 = ad289 := (by injection e289); replace hx289_0 := (HB.out.cell (World.block_lt_of_cell? w _ hx289_0)).trans hx289_0; replace p289 := eq_true p289; replace q289 := eq_true q289) | ((with_reducible refine gate_builtin (b := .append) (xs := #[.tmp 76, .tmp 81]) rfl ?_); (try (refine gate_guard (by rfl) ?_; dsimp only)); at_builtin; refine Kd.R_append Kd.string (w0 := w) w.heap.size rfl (.tmp 76) (.tmp 81) 23 9 (.string ⟨#[]⟩) 16 rfl Tryz.underlying23 info9 rfl (by decide) (by omega) u7 x7_16 (rdOf ByteArray.empty l1 x9_1) [.string (rdOf ByteArray.empty l1 x9_1)] (fun _ => True) (fun _ => False) rfl rfl ?aP (fun _ hk => hk.elim) ?aF ?aO ?aB ?aS ?aL ?_; (case aP => exact rfl); (case aB => exact (hb0_ HB.out)); (case aF => exact (fun _ _ => trivial)); (case aO => exact (by (with_reducible repeat (first | apply Kd.R_alloc | apply Kd.R_drewN | apply Kd.R_drew)); exact HO_7.out)); (case aS => exact (below_size (hb0_ HB.out))); (case aL => have := LMc31.out; omega); intro v291 w32 ho hb hg hat; rw [← Ny290.out] at ho; have n0_ := Aside0.mk (hb); have n1_ := Aside0.mk (ho); clear HB; clear HO_7; have HB := n0_; have HO292 := n1_; clear n0_ n1_; clear ho hb hg hat)); try go_wp2_with (first | (go_at_call 30; (with_reducible refine (tollbooklaw13_has.calls kj20 _ _ l2 (rdOf ByteArray.empty l1 x9_1) false _ ?side1 ?side2 A29.out).mono ?_); (case side1 => repeat (first | exact (Kd.C_below HR2.out HB.out) | (with_reducible refine Kd.C_alloc ?_ _) | (with_reducible refine Kd.C_drewN ?_ _) | (with_reducible refine Kd.C_drew ?_))); (case side2 => exact HC2.out); rintro e w' ⟨rfl, ⟨nd, rfl⟩⟩; (try first | exact ⟨rfl, _, World.drewN_drewN _ _ _⟩ | exact ⟨rfl, _, Eq.trans (World.drewN_drewN _ _ _) (congrArg (World.drewN _) (Nat.add_assoc _ _ _))⟩); have p289 : 0 ≤ (x9_1 : Int) := od_; have q289 : x9_1 < (l1.length : Int) := od_; obtain ⟨ad289, e289, hx289_0⟩ := Kd.at_string HR1.out x9_1 p289 q289; obtain rfl : ad287 = ad289 := (by injection e289); replace hx289_0 := (HB.out.cell (World.block_lt_of_cell? w _ hx289_0)).trans hx289_0; replace p289 := eq_true p289; replace q289 := eq_true q289) | ((with_reducible refine gate_builtin (b := .append) (xs := #[.tmp 76, .tmp 81]) rfl ?_); (try (refine gate_guard (by rfl) ?_; dsimp only)); at_builtin; refine Kd.R_append Kd.string (w0 := w) w.heap.size rfl (.tmp 76) (.tmp 81) 23 9 (.string ⟨#[]⟩) 16 rfl Tryz.underlying23 info9 rfl (by decide) (by omega) u7 x7_16 (rdOf ByteArray.empty l1 x9_1) [.string (rdOf ByteArray.empty l1 x9_1)] (fun _ => True) (fun _ => False) rfl rfl ?aP (fun _ hk => hk.elim) ?aF ?aO ?aB ?aS ?aL ?_; (case aP => exact rfl); (case aB => exact (hb0_ HB.out)); (case aF => exact (fun _ _ => trivial)); (case aO => exact (by (with_reducible repeat (first | apply Kd.R_alloc | apply Kd.R_drewN | apply Kd.R_drew)); exact HO_7.out)); (case aS => exact (below_size (hb0_ HB.out))); (case aL => have := LMc31.out; omega); intro v291 w32 ho hb hg hat; rw [← Ny290.out] at ho; have n0_ := Aside0.mk (hb); have n1_ := Aside0.mk (ho); clear HB; clear HO_7; have HB := n0_; have HO292 := n1_; clear n0_ n1_; clear ho hb hg hat)))
                    go_roundg kj20
                    case measure => have := HK1.out; have := HJ3.out; have := HJ6.out; have := HJ16.out; have := HJ20.out; omega
                    case rel => exact ⟨(y290), (wrap64 (x8_1 + 1)), (wrap64 (x9_1 + 1)), (by first | rfl | (simp; exact le_texts _ _ _ (by rw [Bool.eq_iff_iff]; simp)) | (simp [*]; exact le_texts _ _ _ (by rw [Bool.eq_iff_iff]; simp)) | (simp; done) | (simp [*]; done)), (by first | rfl | (simp; exact le_texts _ _ _ (by rw [Bool.eq_iff_iff]; simp)) | (simp [*]; exact le_texts _ _ _ (by rw [Bool.eq_iff_iff]; simp)) | (simp; done) | (simp [*]; done)), H', ⟨by have := HK1.out; have := HJ3.out; have := HJ6.out; have := HJ16.out; have := HJ20.out; omega⟩, ⟨by (with_reducible repeat (first | apply Kd.R_alloc | apply Kd.R_drewN | apply Kd.R_drew)); exact HO292.out⟩, ⟨(hb0_ HB.out)⟩⟩
                   ·rw [if_neg c31] at H
                    exact absurd H (by simp)
                 ·rw [if_neg c28] at H
                  exact absurd H (by simp)
                ·rw [if_neg c27] at H
                 exact absurd H (by simp)
               ·replace c26 := Bool.eq_false_iff.mpr c26
                subst c26
                have H1 : (tollbooklaw13_named.l0 kj20 l0 l1 l2 x7_16 (wrap64 (x8_1 + 1)) x9_1) = some r := by rw [if_neg (show ¬ (false = true) by decide)] at H; exact H
                clear H
                have H := H1
                clear H1
                have H' := Aside0.mk H
                clear H
                go_wp2
                repeat (go_quiet (fail); try go_wp2)
                go_roundg kj20
                case measure => have := HK1.out; have := HJ3.out; have := HJ6.out; have := HJ16.out; have := HJ20.out; omega
                case rel => exact ⟨(x7_16), (wrap64 (x8_1 + 1)), (x9_1), (by first | rfl | (simp; exact le_texts _ _ _ (by rw [Bool.eq_iff_iff]; simp)) | (simp [*]; exact le_texts _ _ _ (by rw [Bool.eq_iff_iff]; simp)) | (simp; done) | (simp [*]; done)), (by first | rfl | (simp; exact le_texts _ _ _ (by rw [Bool.eq_iff_iff]; simp)) | (simp [*]; exact le_texts _ _ _ (by rw [Bool.eq_iff_iff]; simp)) | (simp; done) | (simp [*]; done)), H', ⟨by have := HK1.out; have := HJ3.out; have := HJ6.out; have := HJ16.out; have := HJ20.out; omega⟩, ⟨by (with_reducible repeat (first | apply Kd.R_alloc | apply Kd.R_drewN | apply Kd.R_drew)); exact HO_7.out⟩, ⟨(hb0_ HB.out)⟩⟩
          ·rw [if_neg c15] at H
           exact absurd H (by simp)
         ·rw [if_neg c14] at H
          exact absurd H (by simp)
        ·replace c13 := Bool.eq_false_iff.mpr c13
         subst c13
         have H1 : (if 0 ≤ x9_1 then (if x9_1 < (l1.length : Int) then ((tollbooklaw13_has.f kj6 l2 (rdOf ByteArray.empty l1 x9_1)).bind fun t294 => (if t294 = true then (tollbooklaw13_named.l0 kj6 l0 l1 l2 x7_1 x8_1 (wrap64 (x9_1 + 1))) else (if x7_1.length < 8796093022208 then (tollbooklaw13_named.l0 kj6 l0 l1 l2 (x7_1 ++ [rdOf ByteArray.empty l1 x9_1]) x8_1 (wrap64 (x9_1 + 1))) else (none)))) else (none)) else (none)) = some r := by rw [if_neg (show ¬ (false = true) by decide)] at H; exact H
         clear H
         have H := H1
         clear H1
         by_cases c33 : 0 ≤ x9_1
         ·rw [if_pos c33] at H
          have c33b0 : decide (0 ≤ x9_1) = true := decide_eq_true c33
          clear c33
          by_cases c34 : x9_1 < (l1.length : Int)
          ·rw [if_pos c34] at H
           have c34b0 : decide (x9_1 < (l1.length : Int)) = true := decide_eq_true c34
           clear c34
           replace H := Option.bind_eq_some_iff.mp H
           obtain ⟨t294, A350, H⟩ := H
           replace H : (if t294 = true then (tollbooklaw13_named.l0 kj6 l0 l1 l2 x7_1 x8_1 (wrap64 (x9_1 + 1))) else (if x7_1.length < 8796093022208 then (tollbooklaw13_named.l0 kj6 l0 l1 l2 (x7_1 ++ [rdOf ByteArray.empty l1 x9_1]) x8_1 (wrap64 (x9_1 + 1))) else (none))) = some r := H
           have A35 := Aside0.mk A350
           clear A350
           by_cases c36 : t294 = true
           ·subst c36
            have H1 : (tollbooklaw13_named.l0 kj6 l0 l1 l2 x7_1 x8_1 (wrap64 (x9_1 + 1))) = some r := by rw [if_pos rfl] at H; exact H
            clear H
            have H := H1
            clear H1
            have H' := Aside0.mk H
            clear H
            have p293 : 0 ≤ (x9_1 : Int) := od_
            have q293 : x9_1 < (l1.length : Int) := od_
            obtain ⟨ad293, e293, hx293_0⟩ := Kd.at_string HR1.out x9_1 p293 q293
            cases e293
            replace hx293_0 := (HB.out.cell (World.block_lt_of_cell? w _ hx293_0)).trans hx293_0
            replace p293 := eq_true p293
            replace q293 := eq_true q293
            go_wp2_with (first | (go_at_call 30; (with_reducible refine (tollbooklaw13_has.calls kj6 _ _ l2 (rdOf ByteArray.empty l1 x9_1) true _ ?side1 ?side2 A35.out).mono ?_); (case side1 => repeat (first | exact (Kd.C_below HR2.out HB.out) | (with_reducible refine Kd.C_alloc ?_ _) | (with_reducible refine Kd.C_drewN ?_ _) | (with_reducible refine Kd.C_drew ?_))); (case side2 => exact HC2.out); rintro e w' ⟨rfl, ⟨nd, rfl⟩⟩; (try first | exact ⟨rfl, _, World.drewN_drewN _ _ _⟩ | exact ⟨rfl, _, Eq.trans (World.drewN_drewN _ _ _) (congrArg (World.drewN _) (Nat.add_assoc _ _ _))⟩)))
            repeat (go_quiet (first | (go_at_call 30; (with_reducible refine (tollbooklaw13_has.calls kj6 _ _ l2 (rdOf ByteArray.empty l1 x9_1) true _ ?side1 ?side2 A35.out).mono ?_); (case side1 => repeat (first | exact (Kd.C_below HR2.out HB.out) | (with_reducible refine Kd.C_alloc ?_ _) | (with_reducible refine Kd.C_drewN ?_ _) | (with_reducible refine Kd.C_drew ?_))); (case side2 => exact HC2.out); rintro e w' ⟨rfl, ⟨nd, rfl⟩⟩; (try first | exact ⟨rfl, _, World.drewN_drewN _ _ _⟩ | exact ⟨rfl, _, Eq.trans (World.drewN_drewN _ _ _) (congrArg (World.drewN _) (Nat.add_assoc _ _ _))⟩))); try go_wp2_with (first | (go_at_call 30; (with_reducible refine (tollbooklaw13_has.calls kj6 _ _ l2 (rdOf ByteArray.empty l1 x9_1) true _ ?side1 ?side2 A35.out).mono ?_); (case side1 => repeat (first | exact (Kd.C_below HR2.out HB.out) | (with_reducible refine Kd.C_alloc ?_ _) | (with_reducible refine Kd.C_drewN ?_ _) | (with_reducible refine Kd.C_drew ?_))); (case side2 => exact HC2.out); rintro e w' ⟨rfl, ⟨nd, rfl⟩⟩; (try first | exact ⟨rfl, _, World.drewN_drewN _ _ _⟩ | exact ⟨rfl, _, Eq.trans (World.drewN_drewN _ _ _) (congrArg (World.drewN _) (Nat.add_assoc _ _ _))⟩))))
            go_roundg kj6
            case measure => have := HK1.out; have := HJ3.out; have := HJ6.out; omega
            case rel => exact ⟨(x7_1), (x8_1), (wrap64 (x9_1 + 1)), (by first | rfl | (simp; exact le_texts _ _ _ (by rw [Bool.eq_iff_iff]; simp)) | (simp [*]; exact le_texts _ _ _ (by rw [Bool.eq_iff_iff]; simp)) | (simp; done) | (simp [*]; done)), (by first | rfl | (simp; exact le_texts _ _ _ (by rw [Bool.eq_iff_iff]; simp)) | (simp [*]; exact le_texts _ _ _ (by rw [Bool.eq_iff_iff]; simp)) | (simp; done) | (simp [*]; done)), H', ⟨by have := HK1.out; have := HJ3.out; have := HJ6.out; omega⟩, ⟨by (with_reducible repeat (first | apply Kd.R_alloc | apply Kd.R_drewN | apply Kd.R_drew)); exact HO_7.out⟩, ⟨(hb0_ HB.out)⟩⟩
           ·replace c36 := Bool.eq_false_iff.mpr c36
            subst c36
            have H1 : (if x7_1.length < 8796093022208 then (tollbooklaw13_named.l0 kj6 l0 l1 l2 (x7_1 ++ [rdOf ByteArray.empty l1 x9_1]) x8_1 (wrap64 (x9_1 + 1))) else (none)) = some r := by rw [if_neg (show ¬ (false = true) by decide)] at H; exact H
            clear H
            have H := H1
            clear H1
            by_cases c37 : x7_1.length < 8796093022208
            ·rw [if_pos c37] at H
             have LMc37 := Aside0.mk c37
             clear c37
             obtain ⟨y296, hy296⟩ : ∃ y_ : List ByteArray, y_ = (x7_1 ++ [rdOf ByteArray.empty l1 x9_1]) := ⟨_, rfl⟩
             replace H : (tollbooklaw13_named.l0 kj6 l0 l1 l2 y296 x8_1 (wrap64 (x9_1 + 1))) = some r := by first | (rw [hy296]; with_reducible exact H) | (have H2_ := (Option.bind_some _ _).symm.trans H; rw [hy296]; with_reducible exact H2_) | (have H2_ := (Option.bind_some _ _).symm.trans H; with_reducible exact H2_) | with_reducible exact H | (rw [hy296]; exact H) | exact H
             have Ny296 := Aside0.mk hy296
             clear hy296
             have H' := Aside0.mk H
             clear H
             have p293 : 0 ≤ (x9_1 : Int) := od_
             have q293 : x9_1 < (l1.length : Int) := od_
             obtain ⟨ad293, e293, hx293_0⟩ := Kd.at_string HR1.out x9_1 p293 q293
             cases e293
             replace hx293_0 := (HB.out.cell (World.block_lt_of_cell? w _ hx293_0)).trans hx293_0
             replace p293 := eq_true p293
             replace q293 := eq_true q293
             go_wp2_with (first | (go_at_call 30; (with_reducible refine (tollbooklaw13_has.calls kj6 _ _ l2 (rdOf ByteArray.empty l1 x9_1) false _ ?side1 ?side2 A35.out).mono ?_); (case side1 => repeat (first | exact (Kd.C_below HR2.out HB.out) | (with_reducible refine Kd.C_alloc ?_ _) | (with_reducible refine Kd.C_drewN ?_ _) | (with_reducible refine Kd.C_drew ?_))); (case side2 => exact HC2.out); rintro e w' ⟨rfl, ⟨nd, rfl⟩⟩; (try first | exact ⟨rfl, _, World.drewN_drewN _ _ _⟩ | exact ⟨rfl, _, Eq.trans (World.drewN_drewN _ _ _) (congrArg (World.drewN _) (Nat.add_assoc _ _ _))⟩); have p295 : 0 ≤ (x9_1 : Int) := od_; have q295 : x9_1 < (l1.length : Int) := od_; obtain ⟨ad295, e295, hx295_0⟩ := Kd.at_string HR1.out x9_1 p295 q295; obtain rfl : ad293 = ad295 := (by injection e295); replace hx295_0 := (HB.out.cell (World.block_lt_of_cell? w _ hx295_0)).trans hx295_0; replace p295 := eq_true p295; replace q295 := eq_true q295) | ((with_reducible refine gate_builtin (b := .append) (xs := #[.tmp 94, .tmp 99]) rfl ?_); (try (refine gate_guard (by rfl) ?_; dsimp only)); at_builtin; refine Kd.R_append Kd.string (w0 := w) w.heap.size rfl (.tmp 94) (.tmp 99) 23 9 (.string ⟨#[]⟩) 16 rfl Tryz.underlying23 info9 rfl (by decide) (by omega) u7 x7_1 (rdOf ByteArray.empty l1 x9_1) [.string (rdOf ByteArray.empty l1 x9_1)] (fun _ => True) (fun _ => False) rfl rfl ?aP (fun _ hk => hk.elim) ?aF ?aO ?aB ?aS ?aL ?_; (case aP => exact rfl); (case aB => exact (hb0_ HB.out)); (case aF => exact (fun _ _ => trivial)); (case aO => exact (by (with_reducible repeat (first | apply Kd.R_alloc | apply Kd.R_drewN | apply Kd.R_drew)); exact HO_7.out)); (case aS => exact (below_size (hb0_ HB.out))); (case aL => have := LMc37.out; omega); intro v297 w38 ho hb hg hat; rw [← Ny296.out] at ho; have n0_ := Aside0.mk (hb); have n1_ := Aside0.mk (ho); clear HB; clear HO_7; have HB := n0_; have HO298 := n1_; clear n0_ n1_; clear ho hb hg hat))
             repeat (go_quiet (first | (go_at_call 30; (with_reducible refine (tollbooklaw13_has.calls kj6 _ _ l2 (rdOf ByteArray.empty l1 x9_1) false _ ?side1 ?side2 A35.out).mono ?_); (case side1 => repeat (first | exact (Kd.C_below HR2.out HB.out) | (with_reducible refine Kd.C_alloc ?_ _) | (with_reducible refine Kd.C_drewN ?_ _) | (with_reducible refine Kd.C_drew ?_))); (case side2 => exact HC2.out); rintro e w' ⟨rfl, ⟨nd, rfl⟩⟩; (try first | exact ⟨rfl, _, World.drewN_drewN _ _ _⟩ | exact ⟨rfl, _, Eq.trans (World.drewN_drewN _ _ _) (congrArg (World.drewN _) (Nat.add_assoc _ _ _))⟩); have p295 : 0 ≤ (x9_1 : Int) := od_; have q295 : x9_1 < (l1.length : Int) := od_; obtain ⟨ad295, e295, hx295_0⟩ := Kd.at_string HR1.out x9_1 p295 q295; obtain rfl : ad293 = ad295 := (by injection e295); replace hx295_0 := (HB.out.cell (World.block_lt_of_cell? w _ hx295_0)).trans hx295_0; replace p295 := eq_true p295; replace q295 := eq_true q295) | ((with_reducible refine gate_builtin (b := .append) (xs := #[.tmp 94, .tmp 99]) rfl ?_); (try (refine gate_guard (by rfl) ?_; dsimp only)); at_builtin; refine Kd.R_append Kd.string (w0 := w) w.heap.size rfl (.tmp 94) (.tmp 99) 23 9 (.string ⟨#[]⟩) 16 rfl Tryz.underlying23 info9 rfl (by decide) (by omega) u7 x7_1 (rdOf ByteArray.empty l1 x9_1) [.string (rdOf ByteArray.empty l1 x9_1)] (fun _ => True) (fun _ => False) rfl rfl ?aP (fun _ hk => hk.elim) ?aF ?aO ?aB ?aS ?aL ?_; (case aP => exact rfl); (case aB => exact (hb0_ HB.out)); (case aF => exact (fun _ _ => trivial)); (case aO => exact (by (with_reducible repeat (first | apply Kd.R_alloc | apply Kd.R_drewN | apply Kd.R_drew)); exact HO_7.out)); (case aS => exact (below_size (hb0_ HB.out))); (case aL => have := LMc37.out; omega); intro v297 w38 ho hb hg hat; rw [← Ny296.out] at ho; have n0_ := Aside0.mk (hb); have n1_ := Aside0.mk (ho); clear HB; clear HO_7; have HB := n0_; have HO298 := n1_; clear n0_ n1_; clear ho hb hg hat)); try go_wp2_with (first | (go_at_call 30; (with_reducible refine (tollbooklaw13_has.calls kj6 _ _ l2 (rdOf ByteArray.empty l1 x9_1) false _ ?side1 ?side2 A35.out).mono ?_); (case side1 => repeat (first | exact (Kd.C_below HR2.out HB.out) | (with_reducible refine Kd.C_alloc ?_ _) | (with_reducible refine Kd.C_drewN ?_ _) | (with_reducible refine Kd.C_drew ?_))); (case side2 => exact HC2.out); rintro e w' ⟨rfl, ⟨nd, rfl⟩⟩; (try first | exact ⟨rfl, _, World.drewN_drewN _ _ _⟩ | exact ⟨rfl, _, Eq.trans (World.drewN_drewN _ _ _) (congrArg (World.drewN _) (Nat.add_assoc _ _ _))⟩); have p295 : 0 ≤ (x9_1 : Int) := od_; have q295 : x9_1 < (l1.length : Int) := od_; obtain ⟨ad295, e295, hx295_0⟩ := Kd.at_string HR1.out x9_1 p295 q295; obtain rfl : ad293 = ad295 := (by injection e295); replace hx295_0 := (HB.out.cell (World.block_lt_of_cell? w _ hx295_0)).trans hx295_0; replace p295 := eq_true p295; replace q295 := eq_true q295) | ((with_reducible refine gate_builtin (b := .append) (xs := #[.tmp 94, .tmp 99]) rfl ?_); (try (refine gate_guard (by rfl) ?_; dsimp only)); at_builtin; refine Kd.R_append Kd.string (w0 := w) w.heap.size rfl (.tmp 94) (.tmp 99) 23 9 (.string ⟨#[]⟩) 16 rfl Tryz.underlying23 info9 rfl (by decide) (by omega) u7 x7_1 (rdOf ByteArray.empty l1 x9_1) [.string (rdOf ByteArray.empty l1 x9_1)] (fun _ => True) (fun _ => False) rfl rfl ?aP (fun _ hk => hk.elim) ?aF ?aO ?aB ?aS ?aL ?_; (case aP => exact rfl); (case aB => exact (hb0_ HB.out)); (case aF => exact (fun _ _ => trivial)); (case aO => exact (by (with_reducible repeat (first | apply Kd.R_alloc | apply Kd.R_drewN | apply Kd.R_drew)); exact HO_7.out)); (case aS => exact (below_size (hb0_ HB.out))); (case aL => have := LMc37.out; omega); intro v297 w38 ho hb hg hat; rw [← Ny296.out] at ho; have n0_ := Aside0.mk (hb); have n1_ := Aside0.mk (ho); clear HB; clear HO_7; have HB := n0_; have HO298 := n1_; clear n0_ n1_; clear ho hb hg hat)))
             go_roundg kj6
             case measure => have := HK1.out; have := HJ3.out; have := HJ6.out; omega
             case rel => exact ⟨(y296), (x8_1), (wrap64 (x9_1 + 1)), (by first | rfl | (simp; exact le_texts _ _ _ (by rw [Bool.eq_iff_iff]; simp)) | (simp [*]; exact le_texts _ _ _ (by rw [Bool.eq_iff_iff]; simp)) | (simp; done) | (simp [*]; done)), (by first | rfl | (simp; exact le_texts _ _ _ (by rw [Bool.eq_iff_iff]; simp)) | (simp [*]; exact le_texts _ _ _ (by rw [Bool.eq_iff_iff]; simp)) | (simp; done) | (simp [*]; done)), H', ⟨by have := HK1.out; have := HJ3.out; have := HJ6.out; omega⟩, ⟨by (with_reducible repeat (first | apply Kd.R_alloc | apply Kd.R_drewN | apply Kd.R_drew)); exact HO298.out⟩, ⟨(hb0_ HB.out)⟩⟩
            ·rw [if_neg c37] at H
             exact absurd H (by simp)
          ·rw [if_neg c34] at H
           exact absurd H (by simp)
         ·rw [if_neg c33] at H
          exact absurd H (by simp)
     ·replace c6 := Bool.eq_false_iff.mpr c6
      subst c6
      have H1 : (some x7_1) = some r := by rw [if_neg (show ¬ (false = true) by decide)] at H; exact H
      clear H
      have H := H1
      clear H1
      obtain rfl := Option.some.inj H
      go_wp2
      repeat (go_quiet (fail); try go_wp2)
      go_ret
      exact ⟨_, rf_, by (with_reducible repeat (first | apply Kd.R_alloc | apply Kd.R_drewN | apply Kd.R_drew)); exact HO_7.out, (hb0_ HB.out)⟩
end Go.Proofs.YtlboolhjfffppaaGreatDoor.PBLI
