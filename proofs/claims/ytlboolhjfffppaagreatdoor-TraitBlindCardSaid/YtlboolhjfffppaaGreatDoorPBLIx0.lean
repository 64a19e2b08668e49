-- Written by this session's program (wip/tools/pr.py over the kit's print).
import Derived.Test.YtlboolhjfffppaaGreatDoorPh
import Derived.Test.YtlboolhjfffppaaGreatDoorProg
import Derived.Below
import Derived.Deep.Draws
import Derived.Deep.AppendLies
import Derived.Maps.AppendAt
import Derived.OwnWalk
import Derived.Laws.BytesArg
import Derived.Laws.MakeOwn
import Derived.Laws.OwnMore
import Derived.Deep.OwnRows
import Derived.Tactics
import Derived.Lib.ConvBytes
import Derived.Laws.Slices
import Derived.WalkKit
import Derived.KernelRfl
import Derived.RowKit3
import Derived.Deep.LoopGhost
import Derived.Deep.QuietTactic
import Derived.BigQuiet
import Derived.WideLaws
import Derived.Deep.DeepCutAuto
import Derived.Deep.CutBlock
import Derived.Deep.RegionHeld3
import Derived.Laws.Rows
import Derived.Lib.AppendStr
import Derived.ArgAppend
import Derived.Laws.IdiomCopy
import Derived.OrdersHeld
import Derived.Laws.BitsLemmas
import Derived.RowKit
import Derived.Lib.OthersKept
import Derived.Lib.Hide
import Derived.Deep.DeepMust
import Derived.Deep.DeepFit
import Derived.Lib.SlBytesConst
import Derived.Test.YtlboolhjfffppaaGreatDoorShelf
import Derived.Maps.Own
import Derived.Maps.OwnOps
import Derived.Lib.SmallJoins
import Derived.Laws.Cover1
import Derived.Sort.OwnSorted
import Derived.Lib.RowBridge
import Derived.Test.YtlboolhjfffppaaGreatDoorShelfN
import Derived.Lib.ItoaNum
import Derived.Laws.CopyOwn
import Derived.Test.YtlboolhjfffppaaGreatDoorWWords
import Derived.Test.YtlboolhjfffppaaGreatDoorWLast
import Derived.Test.YtlboolhjfffppaaGreatDoorWTab
import Derived.Test.YtlboolhjfffppaaGreatDoorWQPut
import Derived.Test.YtlboolhjfffppaaGreatDoorWApart
import Derived.Test.YtlboolhjfffppaaGreatDoorWFoot
import Derived.Test.YtlboolhjfffppaaGreatDoorWKept
import Derived.Test.YtlboolhjfffppaaGreatDoorWShare
import Derived.Test.YtlboolhjfffppaaGreatDoorWN
import Derived.Test.YtlboolhjfffppaaGreatDoorWEqStruct
import Derived.Test.YtlboolhjfffppaaGreatDoorWRepsOne
import Derived.Test.YtlboolhjfffppaaGreatDoorWInv
import Derived.Test.YtlboolhjfffppaaGreatDoorWGuard
import Derived.Test.YtlboolhjfffppaaGreatDoorWMore
namespace Go.Proofs.YtlboolhjfffppaaGreatDoor.PBLI
open Go.RowKit Go.Proofs.YtlboolhjfffppaaGreatDoorW.PrintWords Go.Proofs.YtlboolhjfffppaaGreatDoorW.PrintLast Go.Proofs.YtlboolhjfffppaaGreatDoorW.PrintMore
attribute [local go_sem] max2_int min2_int max_two min_two max_three min_three max_four min_four
set_option linter.unusedVariables false
set_option linter.unusedSimpArgs false
def errW : Option Int → Value
 | none => .nilIface
 | some c => .iface 0 (.int .i64 c)
theorem errW_none : errW none = .nilIface := rfl
theorem errW_some (c : Int) : errW (some c) = .iface 0 (.int .i64 c) := rfl
structure GT (w : World) : Prop where
 tab : Lib.TabIs Tryz.prog w "strings.asciiSpace" .u8 Lib.asciiSpaceTab
 max : ∃ m, w.cell? ⟨2, 0, none⟩ = some (.int .i64 m)
theorem gAscii : Tryz.prog.globalNamed "strings.asciiSpace" = some 0 := by kernel_rfl
theorem GT.at {w w' : World} (h : GT w) (hb : Below w.heap.size w w') : GT w' :=
 ⟨Joins.tab_stays gAscii h.tab hb (Nat.le_refl _), h.max.elim fun m hm => ⟨m, (hb.cell (World.block_lt_of_cell? w _ hm)).trans hm⟩⟩
section
variable {P : Program}
end
def upN (xs : List Int) : Nat → Nat
 | 0 => 0
 | n + 1 => if rd xs (n : Int) = 0 then upN xs n else n + 1
theorem upN_le (xs : List Int) : ∀ n, upN xs n ≤ n
 | 0 => Nat.le_refl _
 | n + 1 => by
  rw [upN]
  have := upN_le xs n
  split <;> omega
theorem wrap_pred (m j : Nat) (h : m = j + 1) (hm : m ≤ 9223372036854775807) : IntKind.i64.wrap ((m : Int) - 1) = (j : Int) := by
 rw [i64_w]; unfold wrap64; omega
set_option maxRecDepth 100000 in
theorem cut_calls (A : Option Addr) (c : Nat) (xs : List Int) (w : World) (hC : Kd.C (Kd.int .u64) w A xs.length xs) (hc : xs.length ≤ c) :
  Calls Tryz.prog 155 #[.slice A xs.length c] w fun e w' => e = .returned (.slice A (upN xs xs.length) c) ∧ Below w.heap.size w w' := by
 have hmx := Kd.C_max hC
 go_enter Tryz.func155, Tryz.ntmps155
 go_wp2
 go_loopw [0] (fun s wr => ∃ m : Nat, m ≤ xs.length ∧ s = .slice A m c ∧ upN xs m = upN xs xs.length ∧ Below w.heap.size w wr)
  (fun s _ => match s with | .slice _ m _ => m | _ => 0)
 case atStart => exact ⟨xs.length, Nat.le_refl _, rfl, rfl, Below.refl _ _⟩
 case round =>
  obtain ⟨m, hm, rfl, hu, hb⟩ := hrel
  by_cases h0 : m = 0
  ·subst h0
   go_wp2
   go_ret
   exact ⟨by rw [← hu]; rfl, hb⟩
  ·obtain ⟨j, hj⟩ : ∃ j, m = j + 1 := ⟨m - 1, by omega⟩
   have hw := wrap_pred m j hj (by omega)
   have h0z : (0 : Int) < (m : Int) := by omega
   obtain ⟨ad, rfl, hx⟩ := Kd.at_int (Kd.C_below hC hb) (j : Int) (by omega) (by omega)
   have hx' : wr.cell? (ad.add j) = some (.int .u64 (rd xs (j : Int))) := by simpa using hx
   clear hx
   have hjm : (j : Int) < (m : Int) := by omega
   have hjle : (j : Int) ≤ (c : Int) := by omega
   have hup : upN xs m = if rd xs (j : Int) = 0 then upN xs j else j + 1 := by rw [hj, upN]
   have HJ := Aside0.mk hj
   clear hj
   by_cases hz : rd xs (j : Int) = 0
   ·rw [if_pos hz] at hup
    have hzb : (rd xs (j : Int) == 0) = true := beq_iff_eq.2 hz
    go_wp2
    go_roundw
    case rel => exact ⟨j, by omega, by go_num, by rw [← hup]; exact hu, hb⟩
    case measure => simp; omega
   ·rw [if_neg hz] at hup
    have hzb : (rd xs (j : Int) == 0) = false := beq_eq_false_iff_ne.2 hz
    go_wp2
    go_ret
    have e : upN xs xs.length = m := by rw [← hu, hup]; exact HJ.out.symm
    exact ⟨by rw [e]; rfl, hb⟩
theorem lt_blk {w : World} {k : Nat} {o : Obj} (h : w.heap[k]? = some o) : k < w.heap.size := (Array.getElem?_eq_some_iff.1 h).1
set_option maxRecDepth 100000 in
theorem held_calls (A : Option Addr) (c : Nat) (xs : List Int) (w : World) (hC : Kd.C (Kd.int .u64) w A xs.length xs) (hc : xs.length ≤ c) (hm : upN xs xs.length ≤ 4096) :
  Calls Tryz.prog 147 #[.slice A xs.length c] w fun e w' => e = .returned (.tuple #[.agg #[.slice A (upN xs xs.length) (upN xs xs.length)], .int .i64 0]) ∧ Below w.heap.size w w' := by
 have hmx := Kd.C_max hC
 have hcx : (c : Int) ≤ (c : Int) := Int.le_refl _
 go_enter Tryz.func147, Tryz.ntmps147
 go_wp2
 go_loopw [4] (fun s wr => ∃ m : Nat, m ≤ xs.length ∧ s = .int .i64 (m : Int) ∧ upN xs m = upN xs xs.length ∧ wr.heap[w.heap.size]? = some (.cells #[.slice none 0 0] 81 (0, 0)) ∧ Below w.heap.size w wr)
  (fun s _ => (intOf s).toNat)
 case atStart => exact ⟨xs.length, Nat.le_refl _, rfl, rfl, (MapKept.heap_alloc w _).1, (Below.refl _ _).alloc (Nat.le_refl _) _⟩
 case round =>
  obtain ⟨m, hm1, rfl, hu, hbk, hb⟩ := hrel
  have hcell : wr.cell? ⟨w.heap.size, 0, none⟩ = some (.slice none 0 0) := (Joins.cell_of_block hbk 0).trans rfl
  have hfz : wr.frozen? ⟨w.heap.size, 0, none⟩ = false := Joins.unfrozen_of_block hbk 0
  by_cases h0 : m = 0
  ·subst h0
   go_wp2
   refine bodyPost_ret (results_ct rfl _ _ w.heap.size 81 #[_] (0, 0) _ rfl ((blk_set hbk 0 _).trans rfl) Tryz.underlying81 rfl (by kernel_rfl)) rfl ?_
   exact ⟨by rw [← hu]; rfl, hb.setCell (Nat.le_refl _) _⟩
  ·obtain ⟨j, hj⟩ : ∃ j, m = j + 1 := ⟨m - 1, by omega⟩
   have hw := wrap_pred m j hj (by omega)
   have h0z : (0 : Int) < (m : Int) := by omega
   obtain ⟨ad, rfl, hx⟩ := Kd.at_int (Kd.C_below hC hb) (j : Int) (by omega) (by omega)
   have hx' : wr.cell? (ad.add j) = some (.int .u64 (rd xs (j : Int))) := by simpa using hx
   clear hx
   have hjm : (j : Int) < (xs.length : Int) := by omega
   have hup : upN xs m = if rd xs (j : Int) = 0 then upN xs j else j + 1 := by rw [hj, upN]
   have HJ := Aside0.mk hj
   clear hj
   by_cases hz : rd xs (j : Int) = 0
   ·rw [if_pos hz] at hup
    have hzb : (rd xs (j : Int) == 0) = true := beq_iff_eq.2 hz
    go_wp2
    go_roundw
    case rel => exact ⟨j, by have := HJ.out; omega, by go_num, by rw [← hup]; exact hu, hbk, hb⟩
    case measure => have := HJ.out; simp [intOf]; omega
   ·rw [if_neg hz] at hup
    have hzb : (rd xs (j : Int) == 0) = false := beq_eq_false_iff_ne.2 hz
    have e : upN xs xs.length = m := by rw [← hu, hup]; exact HJ.out.symm
    rw [e] at hm
    have hmz : ¬ (4096 : Int) < (m : Int) := by omega
    have hmle : (m : Int) ≤ (c : Int) := by omega
    have hm0 : (0 : Int) ≤ (m : Int) := by omega
    go_wp2
    refine bodyPost_ret (results_ct rfl _ _ w.heap.size 81 #[_] (0, 0) _ rfl ((blk_set hbk 0 _).trans rfl) Tryz.underlying81 rfl (by kernel_rfl)) rfl ?_
    exact ⟨rfl, hb.setCell (Nat.le_refl _) _⟩
theorem made_row {w : World} {base N : Nat} {ok : Nat → Prop} {v : Value} {xs : List Int} (h : Kd.R (Kd.int .u64) 92 w base ok v xs) (hn : ∃ b, v.ownBlock = some b ∧ N ≤ b) :
  ∃ g cap cur, v = .slice (some ⟨g, 0, none⟩) xs.length cap ∧ base ≤ g ∧ N ≤ g ∧ w.heap[g]? = some (.cells cur 92 (0, 0)) ∧ xs.length ≤ cap ∧ cap ≤ maxLen ∧ cur.size = cap ∧ cur.toList.take xs.length = encs (Value.int .u64) xs := by
 obtain ⟨_, h2 | ⟨g, cap, cur, rfl, h3, h4, h5, h6, h7, h8⟩⟩ := Kd.own_of_R h
 ·obtain ⟨b, hb, _⟩ := hn
  rw [h2.1] at hb; cases hb
 ·obtain ⟨b, hb, hN⟩ := hn
  have : g = b := by simpa [Value.ownBlock] using hb
  exact ⟨g, cap, cur, rfl, h3, by omega, h4, h5, h6, by omega, by simpa using h8⟩
theorem int_cells {w : World} {A : Option Addr} {n : Nat} {xs : List Int} (h : Kd.C (Kd.int .u64) w A n xs) (hn : 0 < n) : ∃ ad, A = some ad ∧ ∀ j v, (encs (Value.int .u64) xs)[j]? = some v → w.cell? (ad.add j) = some v := by
 have hl := Kd.C_len h
 obtain ⟨ad, rfl, _⟩ := Kd.at_int h 0 (Int.le_refl _) (by omega)
 refine ⟨ad, rfl, fun j v hj => ?_⟩
 obtain ⟨hlt, hv⟩ := List.getElem?_eq_some_iff.1 hj
 rw [encs_length] at hlt
 obtain ⟨ad2, e, hx⟩ := Kd.at_int h (j : Int) (by omega) (by omega)
 cases e
 rw [Int.toNat_natCast] at hx
 rw [← hv, hx]
 simp [encs, rd, hlt]
set_option maxRecDepth 100000 in
theorem trim_calls (A : Option Addr) (c : Nat) (xs : List Int) (w : World) (hC : Kd.C (Kd.int .u64) w A xs.length xs) (hc : xs.length ≤ c) (hm : upN xs xs.length ≤ 4096) :
  Calls Tryz.prog 132 #[.slice A xs.length c] w fun e w' => ∃ A' c', e = .returned (.slice A' (upN xs xs.length) c') ∧ upN xs xs.length ≤ c' ∧ Kd.F (Kd.int .u64) w' (fun k => w.heap.size ≤ k) A' (upN xs xs.length) (xs.take (upN xs xs.length)) ∧ Below w.heap.size w w' := by
 have hle := upN_le xs xs.length
 have hK := cut_calls A c xs w hC hc
 have hD := Kd.C_take (m := upN xs xs.length) hC hle
 obtain ⟨n, hn⟩ : ∃ n, upN xs xs.length = n := ⟨_, rfl⟩
 rw [hn] at hm hK hD hle ⊢
 clear hn
 obtain ⟨ys, hy⟩ : ∃ ys, xs.take n = ys := ⟨_, rfl⟩
 have hyl : ys.length = n := by rw [← hy, List.length_take]; omega
 rw [hy] at hD ⊢
 clear hy
 have hnz : (0 : Int) ≤ (n : Int) := by omega
 go_enter Tryz.func132, Tryz.ntmps132
 go_wp2_with (first
  | (go_at_call 155; go_must (refine hK.mono ?_; rintro e w1 ⟨rfl, hb⟩))
  | ((with_reducible refine gate_dst (N := 8) rfl ?_); refine Kd.R_make (Kd.int .u64) w1.heap.size 92 rfl (N := 8) rfl 79 _ _ rfl (n : Int) rfl rfl Tryz.underlying79 (.int .u64 0) 8 (by kernel_rfl) rfl (by decide) (by omega) 0 (ok := fun _ => True) (okp := fun _ => True) rfl (fun _ hk => hk) trivial hnz (by omega) (w0 := w1) (Below.refl _ _) (Nat.le_refl _) ?_; intro v2 w2 ho hb2 hg2 hn2; rw [Int.toNat_natCast] at ho; obtain ⟨g, cap, cur, rfl, _, hg3, hg4, hcap, hmx, hcs, _⟩ := made_row ho hn2; rw [List.length_replicate] at hcap ⊢; have hbw := hb.trans (hb2.mono hb.size); have hgw : w.heap.size ≤ g := Nat.le_trans hb.size hg3; have hcl : cur.toList.length = cap := (Array.length_toList ..).trans hcs; clear ho hg2 hn2)
  | ((with_reducible refine gate_dst (N := 11) rfl ?_); go_must (refine wpList_copy_splice rfl (.tmp 9) (.tmp 10) 79 79 rfl 92 Tryz.underlying79 (by kernel_rfl) (some ⟨g, 0, none⟩) A n cap n c rfl rfl g 0 cur.toList 92 (by simpa using hg4) (encs (Value.int .u64) ys) (by rw [encs_length, hyl]; exact (Nat.min_self n).symm) (fun hp => ⟨rfl, int_cells (Kd.C_below hD hbw) (by rw [encs_length] at hp; exact hp)⟩) (by rw [encs_length, hyl, hcl]; omega) (fun v hv => by obtain ⟨x, _, rfl⟩ := List.mem_map.1 hv; rfl) w.heap.size w hbw hgw ?_; intro w3 hH hb3)))
 go_ret
 have hown : w3.ownsRow 0 92 1 (.slice (some ⟨g, 0, none⟩) n cap) n (encs (Value.int .u64) ys) := by
  refine ⟨by rw [encs_length, hyl, Nat.mul_one], .inr ⟨g, cap, _, rfl, Nat.zero_le _, hH.out, hcap, hmx, ?_, ?_⟩⟩
  ·rw [List.size_toArray, length_splice _ _ _ (by rw [encs_length, hyl, hcl]; omega), hcl, Nat.mul_one]
  ·rw [Nat.mul_one]
   show (splice cur.toList 0 (encs (Value.int .u64) ys)).take n = _
   unfold splice
   rw [List.take_zero, List.nil_append, ← hyl, ← encs_length (enc := Value.int .u64) ys, List.take_left]
 have hR : Kd.R (Kd.int .u64) 92 w3 0 (fun k => w.heap.size ≤ k) (.slice (some ⟨g, 0, none⟩) n cap) ys := Kd.R_of_own (by rw [hyl]; exact hown) (fun k hk => by have e : g = k := (by simpa [Value.ownBlock] using hk); omega)
 have := (Kd.V_at (base := 0) (Kd.R_V hR)).2.2
 rw [hyl] at this
 exact ⟨_, _, rfl, hcap, this, hb3⟩
def lm (n : Nat) : List Int := if n = 0 then [] else if n < 18446744073709551616 then [(n : Int)] else [((n % 18446744073709551616 : Nat) : Int), ((n / 18446744073709551616 : Nat) : Int)]
def IsN (w : World) (ok : Nat → Prop) (v : Value) (n : Nat) : Prop := ∃ A c, v = .slice A (lm n).length c ∧ (lm n).length ≤ c ∧ Kd.F (Kd.int .u64) w ok A (lm n).length (lm n)
theorem IsN.below {w w' : World} {ok : Nat → Prop} {v : Value} {n : Nat} (h : IsN w ok v n) (hb : Below w.heap.size w w') : IsN w' ok v n := by
 obtain ⟨A, c, e, hc, hC⟩ := h
 exact ⟨A, c, e, hc, Kd.F_below hC hb⟩
theorem IsN.mono {w : World} {ok ok' : Nat → Prop} {v : Value} {n : Nat} (h : IsN w ok v n) (hk : ∀ k, ok k → ok' k) : IsN w ok' v n := by
 obtain ⟨A, c, e, hc, hC⟩ := h
 exact ⟨A, c, e, hc, Kd.F_mono hC hk⟩
theorem IsN.bound {w : World} {ok : Nat → Prop} {v : Value} {n : Nat} (h : IsN w ok v n) : IsN w (fun k => ok k ∧ k < w.heap.size) v n := by
 obtain ⟨A, c, e, hc, hC⟩ := h
 exact ⟨A, c, e, hc, Kd.F_bound hC⟩
theorem IsN.far {w : World} {ok : Nat → Prop} {v : Value} {n : Nat} (h : IsN w ok v n) {p : Addr} (hk : ∀ k, ok k → k ≠ p.block) (u : Value) : IsN (w.setCell p u) ok v n := by
 obtain ⟨A, c, e, hc, hC⟩ := h
 exact ⟨A, c, e, hc, Kd.F_far hC hk u⟩
theorem IsN.nil (w : World) (ok : Nat → Prop) : IsN w ok (.slice none 0 0) 0 := ⟨none, 0, rfl, Nat.le_refl _, Kd.F_nil _ w ok⟩
theorem lm_zero : lm 0 = [] := rfl
theorem lm_one (x : Nat) (h0 : x ≠ 0) (hx : x < 18446744073709551616) : lm x = [(x : Int)] := by unfold lm; rw [if_neg h0, if_pos hx]
theorem lm_up (n : Nat) (h : n < 340282366920938463463374607431768211456) : upN (lm n) (lm n).length = (lm n).length := by
 unfold lm
 by_cases h0 : n = 0
 ·rw [if_pos h0]; rfl
 ·rw [if_neg h0]
  by_cases h1 : n < 18446744073709551616
  ·rw [if_pos h1]
   show upN [(n : Int)] 1 = 1
   rw [upN, if_neg (show ¬ rd [(n : Int)] ((0 : Nat) : Int) = 0 from by show ¬ (n : Int) = 0; omega)]
  ·rw [if_neg h1]
   show upN _ 2 = 2
   rw [upN, if_neg]
   show ¬ ((n / 18446744073709551616 : Nat) : Int) = 0
   omega
theorem one_limb (W : World) (x : Int) : Kd.C (Kd.int .u64) (W.alloc (.cells #[.int .u64 x] 92)) (some ⟨W.heap.size, 0, none⟩) [x].length [x] := by
 have hown : (W.alloc (.cells #[.int .u64 x] 92)).ownsRow 0 92 1 (.slice (some ⟨W.heap.size, 0, none⟩) 1 1) 1 (encs (Value.int .u64) [x]) :=
  ⟨rfl, .inr ⟨W.heap.size, 1, #[.int .u64 x], rfl, Nat.zero_le _, (MapKept.heap_alloc W _).1, Nat.le_refl _, by unfold maxLen; decide, rfl, rfl⟩⟩
 exact (Kd.R_reads' (Kd.R_of_own (h1 := fun _ => rfl) (ok := fun _ => True) hown (fun _ _ => trivial))).2.2
theorem cell_of_one {w : World} {k : Nat} {v : Value} {t : Nat} (h : w.heap[k]? = some (.cells #[v] t (0, 0))) : w.cell? ⟨k, 0, none⟩ = some v := (Joins.cell_of_block h 0).trans rfl
set_option maxHeartbeats 2000000 in
set_option maxRecDepth 100000 in
theorem small_calls (x : Nat) (hx : x < 18446744073709551616) (w : World) :
  Calls Tryz.prog 109 #[.int .u64 (x : Int)] w fun e w' => ∃ v, e = .returned (.agg #[v]) ∧ IsN w' (fun k => w.heap.size ≤ k) v x ∧ Below w.heap.size w w' := by
 obtain ⟨W, hW⟩ : ∃ W, W = w.alloc (.cells #[.slice none 0 0] 81) := ⟨_, rfl⟩
 have hbW : Below w.heap.size w (W.alloc (.cells #[.int .u64 (x : Int)] 92)) := by rw [hW]; exact ((Below.refl _ _).alloc (Nat.le_refl _) _).alloc (by simp) _
 have hup : upN [(x : Int)] [(x : Int)].length = (lm x).length ∧ [(x : Int)].take (lm x).length = lm x := by
  by_cases h0 : x = 0
  ·subst h0; exact ⟨rfl, rfl⟩
  ·rw [lm_one x h0 hx]
   refine ⟨?_, rfl⟩
   show upN [(x : Int)] 1 = 1
   rw [upN, if_neg (show ¬ rd [(x : Int)] ((0 : Nat) : Int) = 0 from by show ¬ (x : Int) = 0; omega)]
 have hK := trim_calls (some ⟨W.heap.size, 0, none⟩) 1 [(x : Int)] _ (one_limb W (x : Int)) (Nat.le_refl _) (by have := upN_le [(x : Int)] 1; show upN [(x : Int)] 1 ≤ 4096; omega)
 rw [hup.1, hup.2] at hK
 have hnew : ∀ w', Below (W.alloc (.cells #[.int .u64 (x : Int)] 92)).heap.size (W.alloc (.cells #[.int .u64 (x : Int)] 92)) w' → w'.heap[w.heap.size]? = some (.cells #[.slice none 0 0] 81 (0, 0)) := fun w' hb => by
  refine (hb.block _ (by rw [hW]; simp; omega)).trans ((Below.heap_alloc _ _ _ (by rw [hW]; simp)).trans ?_)
  rw [hW]; exact (MapKept.heap_alloc w _).1
 have hsz : W.heap.size = w.heap.size + 1 := by rw [hW]; simp
 rw [hsz, List.length_singleton] at hK
 rw [hW] at hK hbW hnew
 clear hsz hup hW W
 go_enter Tryz.func109, Tryz.ntmps109
 go_wp2_with (go_at_call 132; go_must (refine hK.mono ?_; rintro e w1 ⟨A', c', rfl, hc', hC', hb⟩; have hbk := hnew _ hb; have hcl := cell_of_one hbk; have hfz := Joins.unfrozen_of_block hbk 0))
 have hb1 := hbW.trans (hb.mono hbW.size)
 refine bodyPost_ret (results_cell_row rfl _ _ w.heap.size 81 #[_] (0, 0) _ rfl ((blk_set hbk 0 _).trans rfl) Tryz.underlying81 rfl (by kernel_rfl)) rfl ?_
 refine ⟨_, rfl, IsN.mono (ok := fun k => w.heap.size + 2 ≤ k) (IsN.far ⟨A', c', rfl, hc', Kd.F_mono hC' (fun k hk => by simpa using hk)⟩ (fun k hk => ?_) _) (fun k hk => by omega), hb1.setCell (Nat.le_refl _) _⟩
 show k ≠ w.heap.size
 omega
set_option maxHeartbeats 2000000 in
set_option maxRecDepth 100000 in
theorem isZero_calls (A : Option Addr) (m c : Nat) (w : World) :
  Calls Tryz.prog 113 #[.agg #[.slice A m c]] w fun e w' => e = .returned (.bool (decide ((m : Int) = 0))) ∧ Below w.heap.size w w' := by
 go_enter Tryz.func113, Tryz.ntmps113
 go_wp2
 go_ret
 exact ⟨rfl, (Below.refl _ _).alloc (Nat.le_refl _) _⟩
theorem below_aa (w : World) (o1 o2 : Obj) : Below w.heap.size w ((w.alloc o1).alloc o2) := ((Below.refl _ _).alloc (Nat.le_refl _) _).alloc (by simp) _
theorem new_two (w : World) (o1 o2 : Obj) : ((w.alloc o1).alloc o2).heap[w.heap.size + 1]? = some o2 := by
 rw [show w.heap.size + 1 = (w.alloc o1).heap.size from by simp]; exact (MapKept.heap_alloc (w.alloc o1) _).1
set_option maxHeartbeats 2000000 in
set_option maxRecDepth 100000 in
theorem abs_calls (b : Bool) (A : Option Addr) (m c : Nat) (w : World) :
  Calls Tryz.prog 107 #[.agg #[.bool b, .slice A m c]] w fun e w' => e = .returned (.agg #[.slice A m c]) ∧ Below w.heap.size w w' := by
 go_enter Tryz.func107, Tryz.ntmps107
 go_wp2
 refine bodyPost_ret (results_cell_row rfl _ _ (w.heap.size + 1) 81 #[.slice A m c] (0, 0) _ rfl (new_two w _ _) Tryz.underlying81 rfl (by kernel_rfl)) rfl ?_
 exact ⟨rfl, below_aa w _ _⟩
set_option maxHeartbeats 2000000 in
set_option maxRecDepth 100000 in
theorem wnew_calls (A : Option Addr) (m c : Nat) (w : World) :
  Calls Tryz.prog 108 #[.bool false, .agg #[.slice A m c]] w fun e w' => e = .returned (.agg #[.bool false, .slice A m c]) ∧ Below w.heap.size w w' := by
 go_enter Tryz.func108, Tryz.ntmps108
 go_wp2
 go_region
 go_wp2
 refine bodyPost_ret (results_cell_row rfl _ _ (w.heap.size + 1) 83 #[.bool false, .slice A m c] (0, 0) _ rfl (new_two w _ _) Tryz.underlying83 rfl (by kernel_rfl)) rfl ?_
 exact ⟨rfl, below_drew (below_aa w _ _)⟩
set_option maxHeartbeats 2000000 in
set_option maxRecDepth 100000 in
theorem sign_calls (A : Option Addr) (m c : Nat) (w : World) :
  Calls Tryz.prog 104 #[.agg #[.bool false, .slice A m c]] w fun e w' => e = .returned (.int .i64 (if m = 0 then 0 else 1)) ∧ Below w.heap.size w w' := by
 have hb1 : Below w.heap.size w (w.alloc (.cells #[.bool false, .slice A m c] 83)) := (Below.refl _ _).alloc (Nat.le_refl _) _
 by_cases h0 : m = 0
 ·subst h0
  go_enter Tryz.func104, Tryz.ntmps104
  go_wp2_with (go_at_call 113; go_must (refine (isZero_calls A 0 c _).mono ?_; rintro e w2 ⟨rfl, hb2⟩; rw [show decide (((0 : Nat) : Int) = 0) = true from rfl]))
  go_ret
  exact ⟨rfl, hb1.trans (hb2.mono hb1.size)⟩
 ·have hd : decide ((m : Int) = 0) = false := decide_eq_false (by omega)
  go_enter Tryz.func104, Tryz.ntmps104
  go_wp2_with (go_at_call 113; go_must (refine (isZero_calls A m c _).mono ?_; rintro e w2 ⟨rfl, hb2⟩; rw [hd]))
  go_ret
  exact ⟨rfl, hb1.trans (hb2.mono hb1.size)⟩
theorem IsN.len {w : World} {ok : Nat → Prop} {v : Value} {n : Nat} (h : IsN w ok v n) : ∃ A c, v = .slice A (lm n).length c := by
 obtain ⟨A, c, e, _⟩ := h; exact ⟨A, c, e⟩
theorem lm_len0 (n : Nat) : (lm n).length = 0 ↔ n = 0 := by
 unfold lm
 by_cases h0 : n = 0
 ·rw [if_pos h0]; exact ⟨fun _ => h0, fun _ => rfl⟩
 ·rw [if_neg h0]
  split
  ·exact ⟨fun h => by simp at h, fun h => absurd h h0⟩
  ·exact ⟨fun h => by simp at h, fun h => absurd h h0⟩
set_option maxHeartbeats 2000000 in
set_option maxRecDepth 100000 in
theorem wsmall_calls (x : Nat) (hx : x < 9223372036854775808) (w : World) :
  Calls Tryz.prog 74 #[.int .i64 (x : Int)] w fun e w' => ∃ v, e = .returned (.agg #[.bool false, v]) ∧ IsN w' (fun k => w.heap.size < k) v x ∧ Below w.heap.size w w' := by
 have hw : IntKind.u64.wrap (x : Int) = (x : Int) := by rw [IntKind.wrap_u64]; omega
 have hlt : ¬ (x : Int) < 0 := by omega
 have hK := fun W => small_calls x (by omega) W
 have hb0 : ∀ o, Below w.heap.size w (w.alloc o) := fun o => (Below.refl _ _).alloc (Nat.le_refl _) o
 have hnw : ∀ (o : Obj) w2, Below (w.alloc o).heap.size (w.alloc o) w2 → w2.heap[w.heap.size]? = some o := fun o w2 hb => (hb.block _ (by simp)).trans (MapKept.heap_alloc w o).1
 go_enter Tryz.func74, Tryz.ntmps74
 go_wp2_with (first
  | (go_at_call 109; go_must (refine (hK _).mono ?_; rintro e w2 ⟨v, rfl, hN, hb2⟩; obtain ⟨A, c, rfl⟩ := hN.len))
  | (go_at_call 108; go_must (refine (wnew_calls _ _ _ _).mono ?_; rintro e w3 ⟨rfl, hb3⟩; have hb23 := hb2.trans (hb3.mono hb2.size); have hbk := hnw _ _ hb23; have hc0 := (Joins.cell_of_block hbk 0).trans rfl; have hc1 := (Joins.cell_of_block hbk 1).trans rfl; have hf0 := Joins.unfrozen_of_block hbk 0; have hf1 := Joins.unfrozen_of_block hbk 1)))
 have hb4 := (hb0 (.cells #[.bool false, .slice none 0 0] 83)).trans (hb23.mono (hb0 (.cells #[.bool false, .slice none 0 0] 83)).size)
 refine bodyPost_ret (results_cell_row rfl _ _ w.heap.size 83 #[.bool false, .slice A (lm x).length c] (0, 0) _ rfl ((blk_set (blk_set hbk 0 _) 1 _).trans rfl) Tryz.underlying83 rfl (by kernel_rfl)) rfl ?_
 refine ⟨_, rfl, IsN.far (IsN.far (IsN.mono (IsN.below hN hb3) (fun k hk => ?_)) (fun k hk => ?_) _) (fun k hk => ?_) _, (hb4.setCell (Nat.le_refl _) _).setCell (Nat.le_refl _) _⟩
 ·simp at hk; omega
 ·show k ≠ w.heap.size; omega
 ·show k ≠ w.heap.size; omega
theorem info9 : (Tryz.prog.info? 9).map (fun i => (i.zero, i.size, i.bytes)) = some (some (.string ⟨#[]⟩), 1, 16) := by kernel_rfl
theorem info92 : (Tryz.prog.info? 92).map (fun i => (i.zero, i.size, i.bytes)) = some (some (.int .u64 0), 1, 8) := by kernel_rfl
structure S186 where
 f0 : Int
 f1 : Int
 f2 : Int
structure S189 where
 f0 : Int
 f1 : Int
 f2 : Int
structure S42 where
 f0 : Int
 f1 : Int
def z42 : S42 := ⟨(0 : Int), (0 : Int)⟩
def k42 : Kd S42 := Kd.iso (Kd.pair (Kd.int .i64) (Kd.int .i64)) (fun x : S42 => (x.f0, x.f1))
theorem k42_open {w : World} {x : S42} {cs : List Value} (h : k42.K w x cs) : cs = [.int .i64 x.f0, .int .i64 x.f1] := by
 obtain ⟨_, _, rfl, rfl, rfl⟩ := h
 exact rfl
theorem k42_mk (w : World) (x : S42)  : k42.K w x [.int .i64 x.f0, .int .i64 x.f1] := ⟨[.int .i64 x.f0], [.int .i64 x.f1], rfl, rfl, rfl⟩
theorem k42_mkM (w : World) (base : Nat) (ok : Nat → Prop) (x : S42)  : k42.M w base ok x [.int .i64 x.f0, .int .i64 x.f1] := ⟨[.int .i64 x.f0], [.int .i64 x.f1], rfl, rfl, rfl⟩
structure S44 where
 f0 : Int
 f1 : Int
 f2 : ByteArray
 f3 : Int
 f4 : S42
def z44 : S44 := ⟨(0 : Int), (0 : Int), (⟨#[]⟩ : ByteArray), (0 : Int), z42⟩
def k44 : Kd S44 := Kd.iso (Kd.pair (Kd.int .i64) (Kd.pair (Kd.int .i64) (Kd.pair Kd.string (Kd.pair (Kd.int .i64) k42)))) (fun x : S44 => (x.f0, x.f1, x.f2, x.f3, x.f4))
theorem k44_open {w : World} {x : S44} {cs : List Value} (h : k44.K w x cs) : cs = [.int .i64 x.f0, .int .i64 x.f1, .string x.f2, .int .i64 x.f3, .int .i64 x.f4.f0, .int .i64 x.f4.f1] := by
 obtain ⟨_, _, rfl, rfl, ⟨_, _, rfl, rfl, ⟨_, _, rfl, rfl, ⟨_, _, rfl, rfl, s4⟩⟩⟩⟩ := h
 obtain rfl := k42_open s4
 exact rfl
theorem k44_mk (w : World) (x : S44)  : k44.K w x [.int .i64 x.f0, .int .i64 x.f1, .string x.f2, .int .i64 x.f3, .int .i64 x.f4.f0, .int .i64 x.f4.f1] := ⟨[.int .i64 x.f0], [.int .i64 x.f1, .string x.f2, .int .i64 x.f3, .int .i64 x.f4.f0, .int .i64 x.f4.f1], rfl, rfl, ⟨[.int .i64 x.f1], [.string x.f2, .int .i64 x.f3, .int .i64 x.f4.f0, .int .i64 x.f4.f1], rfl, rfl, ⟨[.string x.f2], [.int .i64 x.f3, .int .i64 x.f4.f0, .int .i64 x.f4.f1], rfl, rfl, ⟨[.int .i64 x.f3], [.int .i64 x.f4.f0, .int .i64 x.f4.f1], rfl, rfl, (k42_mk w x.f4 )⟩⟩⟩⟩
theorem k44_mkM (w : World) (base : Nat) (ok : Nat → Prop) (x : S44)  : k44.M w base ok x [.int .i64 x.f0, .int .i64 x.f1, .string x.f2, .int .i64 x.f3, .int .i64 x.f4.f0, .int .i64 x.f4.f1] := ⟨[.int .i64 x.f0], [.int .i64 x.f1, .string x.f2, .int .i64 x.f3, .int .i64 x.f4.f0, .int .i64 x.f4.f1], rfl, rfl, ⟨[.int .i64 x.f1], [.string x.f2, .int .i64 x.f3, .int .i64 x.f4.f0, .int .i64 x.f4.f1], rfl, rfl, ⟨[.string x.f2], [.int .i64 x.f3, .int .i64 x.f4.f0, .int .i64 x.f4.f1], rfl, rfl, ⟨[.int .i64 x.f3], [.int .i64 x.f4.f0, .int .i64 x.f4.f1], rfl, rfl, (k42_mkM w base ok x.f4 )⟩⟩⟩⟩
def rd_T44 (xs : List S44) (i : Int) : S44 := xs.getD i.toNat z44
theorem at_T44 {w : World} {A : Option Addr} {n : Nat} {xs : List S44} (h : Kd.C k44 w A n xs) (i : Int) (h0 : 0 ≤ i) (h1 : i < n) : ∃ ad , A = some ad ∧ w.cell? (ad.add (i.toNat * 6)) = some (.int .i64 (rd_T44 xs i).f0) ∧ w.cell? ⟨(ad.add (i.toNat * 6)).block, (ad.add (i.toNat * 6)).off + 1, none⟩ = some (.int .i64 (rd_T44 xs i).f1) ∧ w.cell? ⟨(ad.add (i.toNat * 6)).block, (ad.add (i.toNat * 6)).off + 2, none⟩ = some (.string (rd_T44 xs i).f2) ∧ w.cell? ⟨(ad.add (i.toNat * 6)).block, (ad.add (i.toNat * 6)).off + 3, none⟩ = some (.int .i64 (rd_T44 xs i).f3) ∧ w.cell? ⟨(ad.add (i.toNat * 6)).block, (ad.add (i.toNat * 6)).off + 4, none⟩ = some (.int .i64 (rd_T44 xs i).f4.f0) ∧ w.cell? ⟨(ad.add (i.toNat * 6)).block, (ad.add (i.toNat * 6)).off + 5, none⟩ = some (.int .i64 (rd_T44 xs i).f4.f1) := by
 obtain ⟨ad, c, e, _, hK, hc0⟩ := Kd.C_get h z44 i h0 h1
 have hc : ∀ j u, c[j]? = some u → w.cell? (ad.add (i.toNat * 6 + j)) = some u := hc0
 obtain rfl := k44_open hK
 exact ⟨ad, e, hc 0 _ rfl, by rw [← add_field _ _ 1 (by omega)]; exact hc 1 _ rfl, by rw [← add_field _ _ 2 (by omega)]; exact hc 2 _ rfl, by rw [← add_field _ _ 3 (by omega)]; exact hc 3 _ rfl, by rw [← add_field _ _ 4 (by omega)]; exact hc 4 _ rfl, by rw [← add_field _ _ 5 (by omega)]; exact hc 5 _ rfl⟩
structure S81 where
 f0 : (List Int)
structure S83 where
 f0 : Bool
 f1 : S81
structure S25 where
 f0 : (List ByteArray)
 f1 : (List ByteArray)
 f2 : Int
 f3 : Int
 f4 : Int
end Go.Proofs.YtlboolhjfffppaaGreatDoor.PBLI
