/- The arguments of the laws of chapter 13, opened: rows of nodes, facts. -/
import Derived.Test.YtcljnjnlafkieaaGreatDoorRProg
import Derived.Test.YtcljnjnlafkieaaGreatDoorRPPLNx3
import Derived.SizedLaws
import Derived.SliceStrings
import Derived.Lib.SmallJoins
import Derived.Deep.Slices
import Derived.Deep.Fields
namespace Go.Proofs.YtcljnjnlafkieaaGreatDoorR.CTr
open Go.Joins Go.ChangeShapes Go.WideShapes Go.RowKit Go.Deep Go.Proofs.YtcljnjnlafkieaaGreatDoorR.PPLN Go.Proofs.YtcljnjnlafkieaaGreatDoorRW.PrintWords
set_option linter.unusedVariables false
section
variable {H : Type} {enc : TypeId × Value → H} {w : World} {base : Nat} {spare : Nat → Bool} {held : Bool}
theorem field_of {fs : Array Field} {xs : List (DataW H × List MemPlace)} {n : Nat} {cs : List Value} (hg : ∀ (i : Nat) (f : Field), fs[i]? = some f → DataW.trod enc Tryz.prog w base spare held n f.type ((cs.drop f.offset).take (Tryz.prog.cellsOf f.type)) = xs[i]?) {i : Nat} {f : Field} {o c : Nat} {t : TypeId} (hf : fs[i]? = some f) (ho : f.offset = o) (ht : f.type = t) (hc : Tryz.prog.cellsOf t = c) :
    DataW.trod enc Tryz.prog w base spare held n t ((cs.drop o).take c) = xs[i]? := by
  subst ho ht hc
  exact hg i f hf
theorem len6 {l : List Value} (h : l.length = 6) : ∃ c0 c1 c2 c3 c4 c5, l = [c0, c1, c2, c3, c4, c5] := by
  match l, h with
  | [c0, c1, c2, c3, c4, c5], _ => exact ⟨_, _, _, _, _, _, rfl⟩
theorem lenx5 {α : Type} {l : List α} (h : l.length = 5) : ∃ c0 c1 c2 c3 c4, l = [c0, c1, c2, c3, c4] := by
  match l, h with
  | [c0, c1, c2, c3, c4], _ => exact ⟨_, _, _, _, _, rfl⟩
theorem dec_open {fuel : Nat} {c0 c1 : Value} {x : DataW H × List MemPlace} (h : DataW.trod enc Tryz.prog w base spare held fuel 43 [c0, c1] = some x) :
    ∃ a b : Int, c0 = .int .i64 a ∧ c1 = .int .i64 b := by
  obtain ⟨xs, n, _, _, _, hl, hg⟩ := DataW.trod_struct Tryz.underlying43 h
  match xs, hl with
  | [y0, y1], _ =>
    have g0 : DataW.trod enc Tryz.prog w base spare held n 2 [c0] = some y0 := field_of hg (i := 0) (o := 0) (c := 1) (t := 2) rfl rfl rfl (by kernel_rfl)
    have g1 : DataW.trod enc Tryz.prog w base spare held n 3 [c1] = some y1 := field_of hg (i := 1) (o := 1) (c := 1) (t := 3) rfl rfl rfl (by kernel_rfl)
    obtain ⟨a, ha, _⟩ := DataW.trod_int (k := .i64) (by kernel_rfl) g0
    obtain ⟨b, hb, _⟩ := DataW.trod_int (k := .i64) (by kernel_rfl) g1
    exact ⟨a, b, (List.cons.inj ha).1, (List.cons.inj hb).1⟩
theorem node_open {fuel : Nat} {cs : List Value} {x : DataW H × List MemPlace} (hl : cs.length = 6) (h : DataW.trod enc Tryz.prog w base spare held fuel 45 cs = some x) :
    ∃ z : S45, k45.K w z cs := by
  obtain ⟨xs, n, _, _, _, hx, hg⟩ := DataW.trod_struct Tryz.underlying45 h
  obtain ⟨c0, c1, c2, c3, c4, c5, rfl⟩ := len6 hl
  obtain ⟨y0, y1, y2, y3, y4, rfl⟩ := lenx5 hx
  have g0 : DataW.trod enc Tryz.prog w base spare held n 40 [c0] = some y0 := field_of hg (i := 0) (o := 0) (c := 1) (t := 40) rfl rfl rfl (by kernel_rfl)
  have g1 : DataW.trod enc Tryz.prog w base spare held n 3 [c1] = some y1 := field_of hg (i := 1) (o := 1) (c := 1) (t := 3) rfl rfl rfl (by kernel_rfl)
  have g2 : DataW.trod enc Tryz.prog w base spare held n 9 [c2] = some y2 := field_of hg (i := 2) (o := 2) (c := 1) (t := 9) rfl rfl rfl (by kernel_rfl)
  have g3 : DataW.trod enc Tryz.prog w base spare held n 41 [c3] = some y3 := field_of hg (i := 3) (o := 3) (c := 1) (t := 41) rfl rfl rfl (by kernel_rfl)
  have g4 : DataW.trod enc Tryz.prog w base spare held n 43 [c4, c5] = some y4 := field_of hg (i := 4) (o := 4) (c := 2) (t := 43) rfl rfl rfl (by kernel_rfl)
  obtain ⟨a, ha, _⟩ := DataW.trod_int (k := .i64) (by kernel_rfl) g0
  obtain ⟨b, hb, _⟩ := DataW.trod_int (k := .i64) (by kernel_rfl) g1
  obtain ⟨c, hc, _⟩ := DataW.trod_string (by kernel_rfl) g2
  obtain ⟨d, hd, _⟩ := DataW.trod_int (k := .i64) (by kernel_rfl) g3
  have e0 : c0 = .int .i64 a := (List.cons.inj ha).1
  have e1 : c1 = .int .i64 b := (List.cons.inj hb).1
  have e2 : c2 = .string c := (List.cons.inj hc).1
  have e3 : c3 = .int .i64 d := (List.cons.inj hd).1
  have h4 := g4
  obtain ⟨u, v, rfl, rfl⟩ := dec_open h4
  subst e0 e1 e2 e3
  exact ⟨⟨a, b, c, d, ⟨u, v⟩⟩, k45_mk w _⟩
theorem nodes_open {ts : List TypeId} {ds : List (DataW H)} {j : Nat} {a : Option Addr} {len cap : Nat} {d : DataW H} {ps : List MemPlace} (hsz : (DataW.weightsEach Tryz.prog ts ds).all (· ≤ reachBytes) = true) (ht : ts[j]? = some 22) (hd : ds[j]? = some d)
    (h : DataW.Trod enc Tryz.prog w base spare held 22 (.slice a len cap) d ps) :
    ∃ l : List S45, len = l.length ∧ l.length ≤ cap ∧ Kd.C k45 w a l.length l ∧ l.length ≤ 2513169434843 := by
  obtain ⟨fuel, hf⟩ := h
  rcases open_slice Tryz.underlying22 hf with ⟨hcs, _⟩ | ⟨x, l, c, m, n, D, Pl, hcs, _, hl, hm, hmm, hx, hi⟩
  · simp [Value.cells] at hcs
    obtain ⟨rfl, rfl, rfl⟩ := hcs
    exact ⟨[], rfl, Nat.le_refl _, ⟨rfl, by simp, fun h => absurd h (by simp)⟩, by simp⟩
  · simp [Value.cells] at hcs
    obtain ⟨rfl, rfl, rfl⟩ := hcs
    obtain ⟨hx, _⟩ := Prod.mk.inj hx
    subst hx
    have z := sized_slice hsz ht hd Tryz.underlying22
    rw [show Tryz.prog.bytesOf 45 = 56 from by kernel_rfl] at z
    have hlm : len ≤ m := by rw [hmm]; split <;> omega
    rw [List.length_map, List.length_map, List.length_range, List.length_range, show len + (m - len) = m by omega] at z
    have hr : reachBytes = 140737488351232 := by decide
    rw [hr] at z
    have hC : Tryz.prog.cellsOf 45 = 6 := by kernel_rfl
    rw [hC] at hi
    haveI : Inhabited (S45 × List Value) := ⟨(z45, [])⟩
    obtain ⟨f, hf⟩ := choose_lt (α := S45 × List Value) (n := len) (p := fun i q => q.2.length = 6 ∧ k45.K w q.1 q.2 ∧ ∀ j u, q.2[j]? = some u → w.cell? (x.add (i * 6 + j)) = some u) (fun i h => by
      obtain ⟨cs', hc, htr⟩ := hi i (by omega)
      obtain ⟨_, hlen, hat⟩ := World.cells?_some hc
      obtain ⟨q, hq⟩ := node_open hlen htr
      refine ⟨(q, cs'), hlen, hq, fun j u hj => ?_⟩
      have hj : cs'[j]? = some u := hj
      have hjl : j < 6 := by have := (List.getElem?_eq_some_iff.1 hj).1; omega
      rw [← Go.Deep.add_add, hat j hjl]; exact hj)
    refine ⟨(List.range len).map fun i => (f i).1, by simp, by simpa using hl, ?_, by simp; omega⟩
    refine ⟨rfl, by simp; omega, fun _ => ⟨x, rfl, fun j p hj => ?_⟩⟩
    rw [List.getElem?_map, Option.map_eq_some_iff] at hj
    obtain ⟨i, hi1, rfl⟩ := hj
    obtain ⟨hi2, hi3⟩ := List.getElem?_eq_some_iff.1 hi1
    rw [List.getElem_range] at hi3
    subst hi3
    obtain ⟨f1, f2, f3⟩ := hf j (by simpa using hi2)
    exact ⟨(f j).2, f1, f2, f3⟩
end
end Go.Proofs.YtcljnjnlafkieaaGreatDoorR.CTr
