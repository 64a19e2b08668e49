/- The row of TraitBlind and its card: the walk is the printed contract over a world that holds the library's table, the tie is given. -/
import Derived.Test.YtlboolhjfffppaaGreatDoorCards
import Derived.Test.YtlboolhjfffppaaGreatDoorTie
import Derived.Test.YtlboolhjfffppaaGreatDoorCTrBlind
import Derived.Test.YtlboolhjfffppaaGreatDoorCTrOpenW
import Derived.Test.YtlboolhjfffppaaGreatDoorBliLaw
import Derived.Test.YtlboolhjfffppaaGreatDoorShelfM
import Derived.WalkKit
import Derived.ProofKit
import Derived.OpenShut
import Derived.ShutString
import Derived.SizedLaws
import Derived.Carry
import Derived.ChangeOld
import Derived.Below
import Derived.Deep.DeepHandedRow
import Derived.Deep.DeepWitnessRowRef
import Derived.Lib.LaidTab
import Derived.Stop.LaidErr
namespace Go.Proofs.YtlboolhjfffppaaGreatDoor.traitBlind
open Go.ChangeShapes Go.WideShapes Go.ChangeAt Go.RowKit
open Go.ChangeMaps (open_string shut_string)
set_option linter.unusedVariables false
theorem laidOut : laidOutB Tryz.prog = true := by kernel_rfl
theorem own : ownKnob Tryz.prog.godebug = none := by kernel_rfl
theorem gTab : Tryz.prog.globalNamed "strings.asciiSpace" = some 0 := by kernel_rfl
theorem gTabType : (Tryz.prog.globals[0]?).map (·.type) = some 138 := by kernel_rfl
theorem cellsT : Tryz.prog.cellsOf 138 = 256 := by kernel_rfl
theorem cells5 : Tryz.prog.cellsOf 5 = 1 := by kernel_rfl
theorem datum : (Rows.laid_strings_asciiSpace : DataW Unit) = Lib.tabData .u8 Lib.asciiSpaceTab := by kernel_rfl
theorem table {W : World} (h : laidMetH Tryz.prog Rows.traitBlindRow.laid W) (hsh : W.ShapedOpen Tryz.prog) : PBLI.GT W := by
  have h1 : laidMet Tryz.prog [("unicode/utf8.acceptRanges", Rows.laid_unicode_utf8_acceptRanges), ("unicode.White_Space", Rows.laid_unicode_White_Space), ("strings.asciiSpace", Rows.laid_strings_asciiSpace), ("unicode/utf8.first", Rows.laid_unicode_utf8_first)] W := h
  have h2 := laidMet.tail (laidMet.tail h1)
  rw [datum] at h2
  exact ⟨Lib.tabIs_of_head gTab gTabType Tryz.underlying138 Tryz.underlying5 cells5 cellsT h2, Tryz.laysM146.s1_3 W hsh⟩
set_option maxRecDepth 100000 in
theorem contract (H : Type) (enc : TypeId × Value → H) (W : World) (base : Nat) (args : Array Value) (ds gs : List (DataW H)) (before : List MemPlace)
    (hval : ∀ (j : Nat) t v, Tryz.f4.params[j]? = some t → args[j]? = some v → Value.okWide Tryz.prog W .any base t v)
    (hW : DataW.Whole enc Tryz.prog Tryz.f4.params.toList Rows.traitBlindSpec.vars false W args.toList ds gs before) (hG : PBLI.GT W) (hsz0 : (DataW.weightsEach Tryz.prog (Tryz.f4.params.toList ++ (OpenSpec.ofChange Rows.traitBlindSpec).bare.plain.varTypes Tryz.prog) (ds ++ gs)).all (· ≤ reachBytes) = true) :
    Calls Tryz.prog 4 args W fun e W' => ∃ v, e = .returned v ∧ Rows.traitBlindSpec.post enc Tryz.prog Tryz.f4 false true false false W args v W' := by
  have hsz := hsz0
  have hW' := hW
  obtain ⟨p, q, hA0, hV, rfl, hfz, hnd⟩ := hW
  have hA : DataW.TrodAll enc Tryz.prog W 0 (fun _ => true) true Tryz.f4.params.toList args.toList ds p := hA0
  rw [Tryz.params4] at hA hval hsz
  obtain ⟨v0, vs0, d0, ds0, p0, q0, hargs0, rfl, rfl, h0, r0⟩ := trodAll_cons hA
  obtain ⟨v1, vs1, d1, ds1, p1, q1, hargs1, rfl, rfl, h1, r1⟩ := trodAll_cons r0
  obtain ⟨v2, vs2, d2, ds2, p2, q2, hargs2, rfl, rfl, h2, r2⟩ := trodAll_cons r1
  obtain ⟨hn, rfl, rfl⟩ := trodAll_nil r2
  obtain rfl : args = #[v0, v1, v2] := by cases args; simp_all
  obtain ⟨rfl, rfl⟩ := trodVars_none hV
  have k0 := h0
  have lt0 : ∀ x ∈ p0, x.block < W.heap.size := by obtain ⟨m, hm⟩ := k0; exact DataW.trod_lt m _ _ _ hm
  obtain ⟨a0, len0, cap0, rfl⟩ := okWide_slice Tryz.underlying22 (hval 0 22 v0 rfl rfl)
  have k1 := h1
  have lt1 : ∀ x ∈ p1, x.block < W.heap.size := by obtain ⟨m, hm⟩ := k1; exact DataW.trod_lt m _ _ _ hm
  have hv1 : ∃ cs, v1 = .agg cs ∧ cs.size = 5 := by
    obtain ⟨cs, e1, e2⟩ := okWide_struct Tryz.underlying25 (hval 1 25 v1 rfl rfl)
    exact ⟨cs, e1, e2.trans (by kernel_rfl)⟩
  have k2 := h2
  have lt2 : ∀ x ∈ p2, x.block < W.heap.size := by obtain ⟨m, hm⟩ := k2; exact DataW.trod_lt m _ _ _ hm
  have hv2 : ∃ cs, v2 = .agg cs ∧ cs.size = 5 := by
    obtain ⟨cs, e1, e2⟩ := okWide_struct Tryz.underlying25 (hval 2 25 v2 rfl rfl)
    exact ⟨cs, e1, e2.trans (by kernel_rfl)⟩
  obtain ⟨l0, rfl, cc0, hC0, hl0, hw0⟩ := CTr.nodes_open (j := 0) hsz rfl rfl h0
  obtain ⟨AB1, cB1, lB1, AL1, cL1, lL1, fa1, fd1, fq1, rfl, hCB1, hcB1, hlB1, hCL1, hcL1, hlL1, ha1, hq1⟩ := CTr.facts_open (j := 1) hsz rfl rfl hv1 h1
  obtain ⟨AB2, cB2, lB2, AL2, cL2, lL2, fa2, fd2, fq2, rfl, hCB2, hcB2, hlB2, hCL2, hcL2, hlL2, ha2, hq2⟩ := CTr.facts_open (j := 2) hsz rfl rfl hv2 h2
  clear hA0 hsz
  simp only [List.append_nil] at hW'
  have HC : Calls Tryz.prog 4 #[.slice a0 l0.length cap0, .agg #[.slice AB1 lB1.length cB1, .slice AL1 lL1.length cL1, .int .i64 fa1, .int .i64 fd1, .int .i64 fq1], .agg #[.slice AB2 lB2.length cB2, .slice AL2 lL2.length cL2, .int .i64 fa2, .int .i64 fd2, .int .i64 fq2]] W fun e w' => e = .returned (.bool true) ∧ Below W.heap.size W w' := by
    obtain ⟨bs, ls, e, h1, h2, p1, p2, p3, hid | ⟨rfl, rfl, rfl, b1, nb, nl, h3, p5, p6, p7, p8⟩⟩ := CTr.blind_cases l0 hw0 (l0.length + 20000) (by omega) lB1 lL1 fa1 fd1 fq1 lB2 lL2 fa2 fd2 fq2 ha1 hq1 ha2 hq2
    · exact PBLI.bidle_calls (l0.length + 20000) a0 cap0 l0 AB1 cB1 lB1 AL1 cL1 lL1 fa1 fd1 fq1 AB2 cB2 lB2 AL2 cL2 lL2 fa2 fd2 fq2 bs ls e h1 h2 W hC0 cc0 hCB1 hcB1 hCL1 hcL1 hCB2 hcB2 hCL2 hcL2 hG p1 p2 p3 (CTr.awake_some _ (by omega)) hid
    · obtain ⟨x, hx⟩ := CTr.ex_out p8
      exact PBLI.blind_calls (l0.length + 20000) a0 cap0 l0 AB1 cB1 lB1 AL1 cL1 lL1 fa1 fd1 fq1 AB2 cB2 lB2 AL2 cL2 lL2 fa2 fd2 fq2 bs ls nb nl h3 x W hC0 cc0 hCB1 hcB1 hCL1 hcL1 hCB2 hcB2 hCL2 hcL2 hG b1 p1 p2 p3 (CTr.awake_some _ (by omega)) p5 p6 p7 hx
  refine HC.mono fun e W' ⟨he, bel⟩ => ?_
  subst he
  exact ⟨_, rfl, _, _, _, [], _, [], hW', trodAll_mk1 (shut_bool Tryz.underlying4 _), (trodAll_cons_mk (Below.trod laidOut (by kernel_rfl) (of_decide_eq_true (by kernel_rfl)) k0 bel lt0) (trodAll_cons_mk (Below.trod laidOut (by kernel_rfl) (of_decide_eq_true (by kernel_rfl)) k1 bel lt1) (trodAll_cons_mk (Below.trod laidOut (by kernel_rfl) (of_decide_eq_true (by kernel_rfl)) k2 bel lt2) trodAll_mk0))), rfl, bel.frame _, fun h => by cases h⟩
noncomputable def laidWorld (os : Os) : World :=
  let N := (World.settled Tryz.prog os).heap.size
  let w0 := World.holding Tryz.prog os ⟨#[
    .cells #[.int .u16 9, .int .u16 13, .int .u16 1, .int .u16 32, .int .u16 133, .int .u16 101, .int .u16 160, .int .u16 5760, .int .u16 5600, .int .u16 8192, .int .u16 8202, .int .u16 1, .int .u16 8232, .int .u16 8233, .int .u16 1, .int .u16 8239, .int .u16 8287, .int .u16 48, .int .u16 12288, .int .u16 12288, .int .u16 1] 186,
    .cells #[.slice (some ⟨N, 0, none⟩) 7 7, .slice none 0 0, .int .i64 2] 183], #[], []⟩
  let put (h : Array Obj) (g : Nat) (cs : Array Value) : Array Obj := h.modify g fun
    | .cells _ t frozen => .cells cs t frozen
    | o => o
  let h1 := put w0.heap 0 (Lib.asciiSpaceTab.map fun z => Value.int .u8 z).toArray
  let h2 := put h1 1 #[.pointer (some ⟨N + 1, 0, none⟩)]
  let h3 := put h2 3 (Pinned.utf8FirstZ.map fun z => Value.int .u8 (z : Nat)).toArray
  let h4 := put h3 4 #[.int .u8 128, .int .u8 191, .int .u8 160, .int .u8 191, .int .u8 128, .int .u8 159, .int .u8 144, .int .u8 191, .int .u8 128, .int .u8 143, .int .u8 0, .int .u8 0, .int .u8 0, .int .u8 0, .int .u8 0, .int .u8 0, .int .u8 0, .int .u8 0, .int .u8 0, .int .u8 0, .int .u8 0, .int .u8 0, .int .u8 0, .int .u8 0, .int .u8 0, .int .u8 0, .int .u8 0, .int .u8 0, .int .u8 0, .int .u8 0, .int .u8 0, .int .u8 0]
  { w0 with heap := h4 }
theorem laid_met (os : Os) : laidMet Tryz.prog Rows.traitBlindRow.laid ((laidWorld os).forCall (fun _ _ => 0) ⟨#[], #[.slice none 0 0, .agg #[.slice none 0 0, .slice none 0 0, .int .i64 0, .int .i64 0, .int .i64 0], .agg #[.slice none 0 0, .slice none 0 0, .int .i64 0, .int .i64 0, .int .i64 0]], []⟩).memory :=
  laidMet_of_run' 8 (by kernel_rfl) (by kernel_rfl)
theorem reads (os : Os) {H : Type} (enc : TypeId × Value → H) : ∃ places, DataW.whole enc Tryz.prog ((laidWorld os).forCall (fun _ _ => 0) ⟨#[], #[.slice none 0 0, .agg #[.slice none 0 0, .slice none 0 0, .int .i64 0, .int .i64 0, .int .i64 0], .agg #[.slice none 0 0, .slice none 0 0, .int .i64 0, .int .i64 0, .int .i64 0]], []⟩).memory Tryz.f4.params.toList Rows.traitBlindSpec.vars false #[.slice none 0 0, .agg #[.slice none 0 0, .slice none 0 0, .int .i64 0, .int .i64 0, .int .i64 0], .agg #[.slice none 0 0, .slice none 0 0, .int .i64 0, .int .i64 0, .int .i64 0]].toList 8 = some ([.nil, .agg [.nil, .nil, .lit (.int .i64 0), .lit (.int .i64 0), .lit (.int .i64 0)], .agg [.nil, .nil, .lit (.int .i64 0), .lit (.int .i64 0), .lit (.int .i64 0)]], [], places) :=
  ⟨[], by kernel_rfl⟩
set_option maxRecDepth 100000 in
theorem lifted (os : Os) (started : os.Started) (H : Type) (enc : TypeId × Value → H) (F : Stop.Interp) :
    ReturnsInHanded {} Tryz.checked os 4 .any ((OpenSpec.ofChange Rows.traitBlindSpec).preRow enc Tryz.prog Tryz.f4 Rows.traitBlindRow.domain false Rows.traitBlindRow.laid) (((OpenSpec.ofChange Rows.traitBlindSpec).at F).post enc Tryz.prog Tryz.f4 false true false false) := by
  obtain ⟨places, hx⟩ := reads os enc
  refine returnsInHanded_of_row (C := Tryz.checked) (s := OpenSpec.ofChange Rows.traitBlindSpec) own started (by kernel_rfl) Tryz.func4
    (witness_row_atRef (enc := enc) (C := Tryz.checked) false (laidWorld os) #[.slice none 0 0, .agg #[.slice none 0 0, .slice none 0 0, .int .i64 0, .int .i64 0, .int .i64 0], .agg #[.slice none 0 0, .slice none 0 0, .int .i64 0, .int .i64 0, .int .i64 0]] rfl (by kernel_rfl) (by kernel_rfl) (by kernel_rfl)
      (OpenSpec.preRow_of_cond 8 hx (by kernel_rfl) (fun k hk => by cases hk) (by kernel_rfl) (laid_met os))) ?_
  intro W base args ds gs before hval hW _ hk hz hL hsh _
  exact contract H enc W base args ds gs before hval hW (table hL hsh) hz
theorem said : Rows.TraitBlindSaid :=
  OpenClaim.holds_of_cond 4 Tryz.f4 rfl rfl rfl rfl rfl rfl rfl ⟨rfl, rfl, rfl, rfl, rfl⟩ rfl rfl rfl rfl rfl (by kernel_rfl) Tryz.func4 (by kernel_rfl)
    (of_decide_eq_true (by kernel_rfl)) (by unfold Func.isWrapper; first | (rw [if_pos (by decide +kernel)]; kernel_rfl) | (rw [if_neg (by decide +kernel)]; exact ⟨rfl, rfl⟩))
    (fun os started H enc _ F => by rw [OpenClaim.pre_eq_preRow]; exact lifted os started H enc F)
theorem plain (f : FuncId) (fn : Func) (hf : Tryz.pinned.checked.prog.funcNamed "tollbook/tollbooklaw13.TraitBlind" = some f) (hfn : Tryz.pinned.checked.prog.funcs[f]? = some fn) :
    false = Tryz.pinned.checked.prog.looks [] ∧ ∀ (j : Nat) t, fn.params[j]? = some t → Tryz.pinned.checked.prog.wantsStandIn t = false := by
  obtain rfl : f = 4 := Option.some.inj ((show Tryz.prog.funcNamed "tollbook/tollbooklaw13.TraitBlind" = some 4 by kernel_rfl).symm.trans hf) |>.symm
  obtain rfl : fn = Tryz.f4 := (Option.some.inj (Tryz.func4.symm.trans hfn)).symm
  refine ⟨by kernel_rfl, fun j t ht => ?_⟩
  rw [Tryz.params4] at ht
  have ht9 : t = 22 ∨ t = 25 := by
    have := Array.mem_of_getElem? ht
    simpa using this
  rcases ht9 with rfl | rfl
  · exact (show Tryz.prog.wantsStandIn 22 = false by kernel_rfl)
  · exact (show Tryz.prog.wantsStandIn 25 = false by kernel_rfl)
theorem card : Rows.TraitBlindCardSaid :=
  Claim7.holds_tied_plain_at .later [] _ _ _ _ said (fun _ h => by cases h) (by kernel_rfl) (fun _ h => by cases h) traitBlind_row_tie rfl ⟨rfl, rfl⟩ (by kernel_rfl) rfl plain (by kernel_rfl)
#print axioms card
end Go.Proofs.YtlboolhjfffppaaGreatDoor.traitBlind
namespace Go.Proofs.YtlboolhjfffppaaGreatDoor
theorem traitBlindCard_holds : Rows.TraitBlindCardSaid := traitBlind.card
end Go.Proofs.YtlboolhjfffppaaGreatDoor
