-- Written by this session's program (wip/tools/pr.py over the kit's print).
import Derived.Test.YtcljnjnlafkieaaGreatDoorRPh
import Derived.Test.YtcljnjnlafkieaaGreatDoorRPPLAx0
namespace Go.Proofs.YtcljnjnlafkieaaGreatDoorR.PPLA
open Go.RowKit Go.Proofs.YtcljnjnlafkieaaGreatDoorRW.PrintWords Go.Proofs.YtcljnjnlafkieaaGreatDoorRW.PrintLast Go.Proofs.YtcljnjnlafkieaaGreatDoorRW.PrintMore
attribute [local go_sem] max2_int min2_int max_two min_two max_three min_three max_four min_four
set_option linter.unusedVariables false
set_option linter.unusedSimpArgs false
def tollbooklaw13_single.l0 : Nat → List (S45) → Int → Option (Bool)
 | 0, _, _ => none
 | k + 1, x0, x3 => if x3 < (x0.length : Int) then (if 0 ≤ x3 then (if ((rd_T45 x0 x3).f0) = 3 then (if (wrap64 (x3 + 1)) ≥ (x0.length : Int) then (some false) else (if 0 ≤ (wrap64 (x3 + 1)) then (if (wrap64 (x3 + 1)) < (x0.length : Int) then (if ((rd_T45 x0 (wrap64 (x3 + 1))).f0) = 4 then (tollbooklaw13_single.l0 k x0 (wrap64 (x3 + 1))) else (if ((rd_T45 x0 (wrap64 (x3 + 1))).f0) = 5 then (tollbooklaw13_single.l0 k x0 (wrap64 (x3 + 1))) else (some false))) else (none)) else (none))) else (tollbooklaw13_single.l0 k x0 (wrap64 (x3 + 1)))) else (none)) else (some true)
def tollbooklaw13_single.f (k : Nat) (l0 : List (S45)) : Option (Bool) := tollbooklaw13_single.l0 k l0 0
set_option maxHeartbeats 8000000 in
set_option maxRecDepth 100000 in
theorem tollbooklaw13_single.calls (k : Nat) (A0 : Option Addr) (c0 : Nat) (l0 : List (S45)) (r : Bool) (w : World) (hr0 : Kd.C k45 w A0 l0.length l0) (hc0 : l0.length ≤ c0) (h : tollbooklaw13_single.f k l0 = some r) :
  Calls Tryz.prog 15 #[.slice A0 l0.length c0] w fun e w' => e = .returned (.bool r) ∧ Drawn0 w w' := by
 have HR0 := Aside0.mk hr0
 have HC0 := Aside0.mk hc0
 clear hr0 hc0
 have H : (tollbooklaw13_single.l0 k l0 0) = some r := h
 clear h
 have H' := Aside0.mk H
 clear H
 go_enter Tryz.func15, Tryz.ntmps15
 go_wp2
 go_loopg [3] k (fun kq v3 w' => ∃ (x3_1 : Int), v3 = .int .i64 x3_1 ∧ Aside0 (tollbooklaw13_single.l0 kq l0 x3_1 = some r) ∧ Aside0 (kq ≤ k) ∧ Drawn0 w w')
 case atStart => exact ⟨(0), (by first | rfl | (simp; done) | (simp [*]; done)), H', ⟨Nat.le_refl _⟩, by repeat (first | exact Drawn0.refl _ | apply Drawn0.step)⟩
 case round =>
  clear H'
  try clear c1
  obtain ⟨x3_1, rfl, HA, HK1, ⟨m1, rfl⟩⟩ := hrel
  cases gk with
  | zero => exact absurd HA.out (by simp [tollbooklaw13_single.l0])
  | succ k1 =>
   have H := HA.out
   clear HA
   simp only [tollbooklaw13_single.l0] at H
   by_cases c2 : x3_1 < (l0.length : Int)
   ·rw [if_pos c2] at H
    have c2b0 : decide (x3_1 < (l0.length : Int)) = true := decide_eq_true c2
    clear c2
    by_cases c3 : 0 ≤ x3_1
    ·rw [if_pos c3] at H
     have c3b0 : decide (0 ≤ x3_1) = true := decide_eq_true c3
     clear c3
     by_cases c4 : ((rd_T45 l0 x3_1).f0) = 3
     ·rw [if_pos c4] at H
      have c4b0 : (((rd_T45 l0 x3_1).f0) == 3) = true := beq_iff_eq.mpr c4
      have c4b1 : (((rd_T45 l0 x3_1).f0) != 3) = false := bne_eq_false_iff_eq.mpr c4
      clear c4
      by_cases c5 : (wrap64 (x3_1 + 1)) ≥ (l0.length : Int)
      ·rw [if_pos c5] at H
       have c5b0 : decide ((l0.length : Int) ≤ (wrap64 (x3_1 + 1))) = true := decide_eq_true c5
       clear c5
       obtain rfl := Option.some.inj H
       have p280 : 0 ≤ (x3_1 : Int) := od_
       have q280 : x3_1 < (l0.length : Int) := od_
       obtain ⟨ad280, e280, hx280_0, hx280_1, hx280_2, hx280_3, hx280_4, hx280_5⟩ := at_T45 HR0.out x3_1 p280 q280
       cases e280
       replace p280 := eq_true p280
       replace q280 := eq_true q280
       go_wp2
       go_ret
       exact ⟨by first | rfl | (simp; done) | (simp [*]; done), by repeat (first | exact Drawn0.refl _ | apply Drawn0.step)⟩
      ·rw [if_neg c5] at H
       have c5b0 : decide ((l0.length : Int) ≤ (wrap64 (x3_1 + 1))) = false := decide_eq_false c5
       clear c5
       obtain ⟨ji6, hji6⟩ : ∃ j_ : Int, (wrap64 (x3_1 + 1)) = j_ := ⟨_, rfl⟩
       replace H : (if 0 ≤ (ji6) then (if (ji6) < (l0.length : Int) then (if ((rd_T45 l0 (ji6)).f0) = 4 then (tollbooklaw13_single.l0 k1 l0 ji6) else (if ((rd_T45 l0 (ji6)).f0) = 5 then (tollbooklaw13_single.l0 k1 l0 ji6) else (some false))) else (none)) else (none)) = some r := by first | (rw [hji6] at H; exact H) | (simp only [hji6] at H ⊢; exact H)
       (try rw [hji6] at c5b0)
       have hji6w : (IntKind.i64.wrap (x3_1 + 1)) = ji6 := (i64_w _).trans hji6
       by_cases c7 : 0 ≤ (ji6)
       ·rw [if_pos c7] at H
        have c7b0 : decide (0 ≤ (ji6)) = true := decide_eq_true c7
        clear c7
        by_cases c8 : (ji6) < (l0.length : Int)
        ·rw [if_pos c8] at H
         have c8b0 : decide ((ji6) < (l0.length : Int)) = true := decide_eq_true c8
         clear c8
         by_cases c9 : ((rd_T45 l0 (ji6)).f0) = 4
         ·rw [if_pos c9] at H
          have c9b0 : (((rd_T45 l0 (ji6)).f0) == 4) = true := beq_iff_eq.mpr c9
          have c9b1 : (((rd_T45 l0 (ji6)).f0) != 4) = false := bne_eq_false_iff_eq.mpr c9
          clear c9
          have H' := Aside0.mk H
          clear H
          have p280 : 0 ≤ (x3_1 : Int) := od_
          have q280 : x3_1 < (l0.length : Int) := od_
          obtain ⟨ad280, e280, hx280_0, hx280_1, hx280_2, hx280_3, hx280_4, hx280_5⟩ := at_T45 HR0.out x3_1 p280 q280
          cases e280
          replace p280 := eq_true p280
          replace q280 := eq_true q280
          have p281 : 0 ≤ ((ji6) : Int) := od_
          have q281 : (ji6) < (l0.length : Int) := od_
          obtain ⟨ad281, e281, hx281_0, hx281_1, hx281_2, hx281_3, hx281_4, hx281_5⟩ := at_T45 HR0.out (ji6) p281 q281
          obtain rfl : ad280 = ad281 := (by injection e281)
          replace p281 := eq_true p281
          replace q281 := eq_true q281
          go_wp2
          go_roundg k1
          case measure => have := HK1.out; omega
          case rel => exact ⟨(ji6), (by first | rfl | (simp; done) | (simp only [← hji6] <;> (first | rfl | simp)) | (simp [*]; done)), H', ⟨by have := HK1.out; omega⟩, by repeat (first | exact Drawn0.refl _ | apply Drawn0.step)⟩
         ·rw [if_neg c9] at H
          have c9b0 : (((rd_T45 l0 (ji6)).f0) == 4) = false := beq_eq_false_iff_ne.mpr c9
          have c9b1 : (((rd_T45 l0 (ji6)).f0) != 4) = true := bne_iff_ne.mpr c9
          by_cases c10 : ((rd_T45 l0 (ji6)).f0) = 5
          ·rw [if_pos c10] at H
           have c10b0 : (((rd_T45 l0 (ji6)).f0) == 5) = true := beq_iff_eq.mpr c10
           have c10b1 : (((rd_T45 l0 (ji6)).f0) != 5) = false := bne_eq_false_iff_eq.mpr c10
           clear c10
           have H' := Aside0.mk H
           clear H
           have p280 : 0 ≤ (x3_1 : Int) := od_
           have q280 : x3_1 < (l0.length : Int) := od_
           obtain ⟨ad280, e280, hx280_0, hx280_1, hx280_2, hx280_3, hx280_4, hx280_5⟩ := at_T45 HR0.out x3_1 p280 q280
           cases e280
           replace p280 := eq_true p280
           replace q280 := eq_true q280
           have p281 : 0 ≤ ((ji6) : Int) := od_
           have q281 : (ji6) < (l0.length : Int) := od_
           obtain ⟨ad281, e281, hx281_0, hx281_1, hx281_2, hx281_3, hx281_4, hx281_5⟩ := at_T45 HR0.out (ji6) p281 q281
           obtain rfl : ad280 = ad281 := (by injection e281)
           replace p281 := eq_true p281
           replace q281 := eq_true q281
           have p282 : 0 ≤ ((ji6) : Int) := od_
           have q282 : (ji6) < (l0.length : Int) := od_
           obtain ⟨ad282, e282, hx282_0, hx282_1, hx282_2, hx282_3, hx282_4, hx282_5⟩ := at_T45 HR0.out (ji6) p282 q282
           obtain rfl : ad280 = ad282 := (by injection e282)
           replace p282 := eq_true p282
           replace q282 := eq_true q282
           go_wp2
           go_roundg k1
           case measure => have := HK1.out; omega
           case rel => exact ⟨(ji6), (by first | rfl | (simp; done) | (simp only [← hji6] <;> (first | rfl | simp)) | (simp [*]; done)), H', ⟨by have := HK1.out; omega⟩, by repeat (first | exact Drawn0.refl _ | apply Drawn0.step)⟩
          ·rw [if_neg c10] at H
           have c10b0 : (((rd_T45 l0 (ji6)).f0) == 5) = false := beq_eq_false_iff_ne.mpr c10
           have c10b1 : (((rd_T45 l0 (ji6)).f0) != 5) = true := bne_iff_ne.mpr c10
           obtain rfl := Option.some.inj H
           have p280 : 0 ≤ (x3_1 : Int) := od_
           have q280 : x3_1 < (l0.length : Int) := od_
           obtain ⟨ad280, e280, hx280_0, hx280_1, hx280_2, hx280_3, hx280_4, hx280_5⟩ := at_T45 HR0.out x3_1 p280 q280
           cases e280
           replace p280 := eq_true p280
           replace q280 := eq_true q280
           have p281 : 0 ≤ ((ji6) : Int) := od_
           have q281 : (ji6) < (l0.length : Int) := od_
           obtain ⟨ad281, e281, hx281_0, hx281_1, hx281_2, hx281_3, hx281_4, hx281_5⟩ := at_T45 HR0.out (ji6) p281 q281
           obtain rfl : ad280 = ad281 := (by injection e281)
           replace p281 := eq_true p281
           replace q281 := eq_true q281
           have p282 : 0 ≤ ((ji6) : Int) := od_
           have q282 : (ji6) < (l0.length : Int) := od_
           obtain ⟨ad282, e282, hx282_0, hx282_1, hx282_2, hx282_3, hx282_4, hx282_5⟩ := at_T45 HR0.out (ji6) p282 q282
           obtain rfl : ad280 = ad282 := (by injection e282)
           replace p282 := eq_true p282
           replace q282 := eq_true q282
           go_wp2
           go_ret
           exact ⟨by first | rfl | (simp; done) | (simp only [← hji6] <;> (first | rfl | simp)) | (simp [*]; done), by repeat (first | exact Drawn0.refl _ | apply Drawn0.step)⟩
        ·rw [if_neg c8] at H
         exact absurd H (by simp)
       ·rw [if_neg c7] at H
        exact absurd H (by simp)
     ·rw [if_neg c4] at H
      have c4b0 : (((rd_T45 l0 x3_1).f0) == 3) = false := beq_eq_false_iff_ne.mpr c4
      have c4b1 : (((rd_T45 l0 x3_1).f0) != 3) = true := bne_iff_ne.mpr c4
      have H' := Aside0.mk H
      clear H
      have p280 : 0 ≤ (x3_1 : Int) := od_
      have q280 : x3_1 < (l0.length : Int) := od_
      obtain ⟨ad280, e280, hx280_0, hx280_1, hx280_2, hx280_3, hx280_4, hx280_5⟩ := at_T45 HR0.out x3_1 p280 q280
      cases e280
      replace p280 := eq_true p280
      replace q280 := eq_true q280
      go_wp2
      go_roundg k1
      case measure => have := HK1.out; omega
      case rel => exact ⟨(wrap64 (x3_1 + 1)), (by first | rfl | (simp; done) | (simp [*]; done)), H', ⟨by have := HK1.out; omega⟩, by repeat (first | exact Drawn0.refl _ | apply Drawn0.step)⟩
    ·rw [if_neg c3] at H
     exact absurd H (by simp)
   ·rw [if_neg c2] at H
    have c2b0 : decide (x3_1 < (l0.length : Int)) = false := decide_eq_false c2
    clear c2
    obtain rfl := Option.some.inj H
    go_wp2
    go_ret
    exact ⟨by first | rfl | (simp; done) | (simp [*]; done), by repeat (first | exact Drawn0.refl _ | apply Drawn0.step)⟩
def tollbookref12_Small.f (a0 : Int) : Option (Bool) := if a0 ≥ 97 then (some (decide (a0 ≤ 122))) else (some false)
def tollbookref12_digit.f (a0 : Int) : Option (Bool) := if a0 ≥ 48 then (some (decide (a0 ≤ 57))) else (some false)
def tollbookref12_within.f (a0 : Int) : Option (Bool) := (tollbookref12_Small.f a0).bind fun t303 => (if t303 = true then (some true) else ((tollbookref12_digit.f a0).bind fun t304 => (if t304 = true then (some true) else (some (a0 == 95)))))
mutual
def tollbookref12_part.j0 : Nat → ByteArray → Bool → Option (Int)
 | 0, _, _ => none
 | k + 1, x0, x12 => if x12 = true then (some 0) else (tollbookref12_part.l0 k x0 1)
def tollbookref12_part.l0 : Nat → ByteArray → Int → Option (Int)
 | 0, _, _ => none
 | k + 1, x0, x3 => if x3 < (x0.size : Int) then (if 0 ≤ x3 then ((tollbookref12_within.f (bt x0 x3)).bind fun t306 => (if t306 = true then (tollbookref12_part.l0 k x0 (wrap64 (x3 + 1))) else (some x3))) else (none)) else (some x3)
end
def tollbookref12_part.f (k : Nat) (a0 : ByteArray) : Option (Int) := if (a0.size : Int) = 0 then (tollbookref12_part.j0 k a0 true) else (if 0 < (a0.size : Int) then ((tollbookref12_Small.f (bt a0 0)).bind fun t305 => (tollbookref12_part.j0 k a0 (!t305))) else (none))
end Go.Proofs.YtcljnjnlafkieaaGreatDoorR.PPLA
