/- The arguments of the laws of chapter 13, opened: rows of nodes, facts; with the numbers' upper bound. -/
import Derived.Test.YtlboolhjfffppaaGreatDoorProg
import Derived.Test.YtlboolhjfffppaaGreatDoorPBLIx5
import Derived.SizedLaws
import Derived.SliceStrings
import Derived.Lib.SmallJoins
import Derived.Deep.Slices
import Derived.Deep.Fields
namespace Go.Proofs.YtlboolhjfffppaaGreatDoor.CTr
open Go.Joins Go.ChangeShapes Go.WideShapes Go.RowKit Go.Deep Go.Proofs.YtlboolhjfffppaaGreatDoor.PBLI Go.Proofs.YtlboolhjfffppaaGreatDoorW.PrintWords
set_option linter.unusedVariables false
theorem weights_all {H : Type} {P : Program} {ts : List TypeId} {ds : List (DataW H)} {fs : Array Field} {t : TypeId} {parts : List (DataW H)} {j : Nat} (h : (DataW.weightsEach P ts ds).all (· ≤ reachBytes) = true) (ht : ts[j]? = some t) (hd : ds[j]? = some (.agg parts)) (hu : P.underlying t = some (.struct fs)) :
    (DataW.weightsEach P (fs.toList.map (·.type)) parts).all (· ≤ reachBytes) = true := by
  rw [List.all_eq_true] at h ⊢
  exact fun n hn => h n (DataW.weights_mem_each ht hd n (by simpa [DataW.weights, hu] using hn))
section
variable {H : Type} {enc : TypeId × Value → H} {w : World} {base : Nat} {spare : Nat → Bool} {held : Bool}
theorem field_of {fs : Array Field} {xs : List (DataW H × List MemPlace)} {n : Nat} {cs : List Value} (hg : ∀ (i : Nat) (f : Field), fs[i]? = some f → DataW.trod enc Tryz.prog w base spare held n f.type ((cs.drop f.offset).take (Tryz.prog.cellsOf f.type)) = xs[i]?) {i : Nat} {f : Field} {o c : Nat} {t : TypeId} (hf : fs[i]? = some f) (ho : f.offset = o) (ht : f.type = t) (hc : Tryz.prog.cellsOf t = c) :
    DataW.trod enc Tryz.prog w base spare held n t ((cs.drop o).take c) = xs[i]? := by
  subst ho ht hc
  exact hg i f hf
theorem len5 {l : List Value} (h : l.length = 5) : ∃ c0 c1 c2 c3 c4, l = [c0, c1, c2, c3, c4] := by
  match l, h with
  | [c0, c1, c2, c3, c4], _ => exact ⟨_, _, _, _, _, rfl⟩
theorem len6 {l : List Value} (h : l.length = 6) : ∃ c0 c1 c2 c3 c4 c5, l = [c0, c1, c2, c3, c4, c5] := by
  match l, h with
  | [c0, c1, c2, c3, c4, c5], _ => exact ⟨_, _, _, _, _, _, rfl⟩
theorem lenx5 {α : Type} {l : List α} (h : l.length = 5) : ∃ c0 c1 c2 c3 c4, l = [c0, c1, c2, c3, c4] := by
  match l, h with
  | [c0, c1, c2, c3, c4], _ => exact ⟨_, _, _, _, _, rfl⟩
theorem wf_i64 {n : Int} (h : (Lit.int .i64 n).wf = true) : n ≤ 9223372036854775807 := by
  simp only [Lit.wf, Bool.and_eq_true, decide_eq_true_iff] at h
  exact h.2
theorem dec_open {fuel : Nat} {c0 c1 : Value} {x : DataW H × List MemPlace} (h : DataW.trod enc Tryz.prog w base spare held fuel 42 [c0, c1] = some x) :
    ∃ a b : Int, c0 = .int .i64 a ∧ c1 = .int .i64 b ∧ a ≤ 9223372036854775807 := by
  obtain ⟨xs, n, _, _, _, hl, hg⟩ := DataW.trod_struct Tryz.underlying42 h
  match xs, hl with
  | [y0, y1], _ =>
    have g0 : DataW.trod enc Tryz.prog w base spare held n 2 [c0] = some y0 := field_of hg (i := 0) (o := 0) (c := 1) (t := 2) rfl rfl rfl (by kernel_rfl)
    have g1 : DataW.trod enc Tryz.prog w base spare held n 3 [c1] = some y1 := field_of hg (i := 1) (o := 1) (c := 1) (t := 3) rfl rfl rfl (by kernel_rfl)
    obtain ⟨a, ha, _, hwa⟩ := DataW.trod_int (k := .i64) (by kernel_rfl) g0
    obtain ⟨b, hb, _⟩ := DataW.trod_int (k := .i64) (by kernel_rfl) g1
    exact ⟨a, b, (List.cons.inj ha).1, (List.cons.inj hb).1, wf_i64 hwa⟩
theorem node_open {fuel : Nat} {cs : List Value} {x : DataW H × List MemPlace} (hl : cs.length = 6) (h : DataW.trod enc Tryz.prog w base spare held fuel 44 cs = some x) :
    ∃ z : S44, k44.K w z cs ∧ z.f4.f0 ≤ 9223372036854775807 := by
  obtain ⟨xs, n, _, _, _, hx, hg⟩ := DataW.trod_struct Tryz.underlying44 h
  obtain ⟨c0, c1, c2, c3, c4, c5, rfl⟩ := len6 hl
  obtain ⟨y0, y1, y2, y3, y4, rfl⟩ := lenx5 hx
  have g0 : DataW.trod enc Tryz.prog w base spare held n 39 [c0] = some y0 := field_of hg (i := 0) (o := 0) (c := 1) (t := 39) rfl rfl rfl (by kernel_rfl)
  have g1 : DataW.trod enc Tryz.prog w base spare held n 3 [c1] = some y1 := field_of hg (i := 1) (o := 1) (c := 1) (t := 3) rfl rfl rfl (by kernel_rfl)
  have g2 : DataW.trod enc Tryz.prog w base spare held n 9 [c2] = some y2 := field_of hg (i := 2) (o := 2) (c := 1) (t := 9) rfl rfl rfl (by kernel_rfl)
  have g3 : DataW.trod enc Tryz.prog w base spare held n 40 [c3] = some y3 := field_of hg (i := 3) (o := 3) (c := 1) (t := 40) rfl rfl rfl (by kernel_rfl)
  have g4 : DataW.trod enc Tryz.prog w base spare held n 42 [c4, c5] = some y4 := field_of hg (i := 4) (o := 4) (c := 2) (t := 42) rfl rfl rfl (by kernel_rfl)
  obtain ⟨a, ha, _⟩ := DataW.trod_int (k := .i64) (by kernel_rfl) g0
  obtain ⟨b, hb, _⟩ := DataW.trod_int (k := .i64) (by kernel_rfl) g1
  obtain ⟨c, hc, _⟩ := DataW.trod_string (by kernel_rfl) g2
  obtain ⟨d, hd, _⟩ := DataW.trod_int (k := .i64) (by kernel_rfl) g3
  have e0 : c0 = .int .i64 a := (List.cons.inj ha).1
  have e1 : c1 = .int .i64 b := (List.cons.inj hb).1
  have e2 : c2 = .string c := (List.cons.inj hc).1
  have e3 : c3 = .int .i64 d := (List.cons.inj hd).1
  have h4 := g4
  obtain ⟨u, v, rfl, rfl, hu⟩ := dec_open h4
  subst e0 e1 e2 e3
  exact ⟨⟨a, b, c, d, ⟨u, v⟩⟩, k44_mk w _, hu⟩
theorem nodes_open {ts : List TypeId} {ds : List (DataW H)} {j : Nat} {a : Option Addr} {len cap : Nat} {d : DataW H} {ps : List MemPlace} (hsz : (DataW.weightsEach Tryz.prog ts ds).all (· ≤ reachBytes) = true) (ht : ts[j]? = some 22) (hd : ds[j]? = some d)
    (h : DataW.Trod enc Tryz.prog w base spare held 22 (.slice a len cap) d ps) :
    ∃ l : List S44, len = l.length ∧ l.length ≤ cap ∧ Kd.C k44 w a l.length l ∧ l.length ≤ 2513169434843 ∧ ∀ z ∈ l, z.f4.f0 ≤ 9223372036854775807 := by
  obtain ⟨fuel, hf⟩ := h
  rcases open_slice Tryz.underlying22 hf with ⟨hcs, _⟩ | ⟨x, l, c, m, n, D, Pl, hcs, _, hl, hm, hmm, hx, hi⟩
  · simp [Value.cells] at hcs
    obtain ⟨rfl, rfl, rfl⟩ := hcs
    exact ⟨[], rfl, Nat.le_refl _, ⟨rfl, by simp, fun h => absurd h (by simp)⟩, by simp, fun z hz => by cases hz⟩
  · simp [Value.cells] at hcs
    obtain ⟨rfl, rfl, rfl⟩ := hcs
    obtain ⟨hx, _⟩ := Prod.mk.inj hx
    subst hx
    have z := sized_slice hsz ht hd Tryz.underlying22
    rw [show Tryz.prog.bytesOf 44 = 56 from by kernel_rfl] at z
    have hlm : len ≤ m := by rw [hmm]; split <;> omega
    rw [List.length_map, List.length_map, List.length_range, List.length_range, show len + (m - len) = m by omega] at z
    have hr : reachBytes = 140737488351232 := by decide
    rw [hr] at z
    have hC : Tryz.prog.cellsOf 44 = 6 := by kernel_rfl
    rw [hC] at hi
    haveI : Inhabited (S44 × List Value) := ⟨(z44, [])⟩
    obtain ⟨f, hf⟩ := choose_lt (α := S44 × List Value) (n := len) (p := fun i q => q.2.length = 6 ∧ (k44.K w q.1 q.2 ∧ q.1.f4.f0 ≤ 9223372036854775807) ∧ ∀ j u, q.2[j]? = some u → w.cell? (x.add (i * 6 + j)) = some u) (fun i h => by
      obtain ⟨cs', hc, htr⟩ := hi i (by omega)
      obtain ⟨_, hlen, hat⟩ := World.cells?_some hc
      obtain ⟨q, hq⟩ := node_open hlen htr
      refine ⟨(q, cs'), hlen, hq, fun j u hj => ?_⟩
      have hj : cs'[j]? = some u := hj
      have hjl : j < 6 := by have := (List.getElem?_eq_some_iff.1 hj).1; omega
      rw [← Go.Deep.add_add, hat j hjl]; exact hj)
    refine ⟨(List.range len).map fun i => (f i).1, by simp, by simpa using hl, ?_, by simp; omega, fun z hz => ?_⟩
    rotate_left
    · obtain ⟨i, hi1, rfl⟩ := List.mem_map.1 hz
      exact (hf i (List.mem_range.1 hi1)).2.1.2
    refine ⟨rfl, by simp; omega, fun _ => ⟨x, rfl, fun j p hj => ?_⟩⟩
    rw [List.getElem?_map, Option.map_eq_some_iff] at hj
    obtain ⟨i, hi1, rfl⟩ := hj
    obtain ⟨hi2, hi3⟩ := List.getElem?_eq_some_iff.1 hi1
    rw [List.getElem_range] at hi3
    subst hi3
    obtain ⟨f1, f2, f3⟩ := hf j (by simpa using hi2)
    exact ⟨(f j).2, f1, f2.1, f3⟩
theorem texts_open {ts : List TypeId} {ds : List (DataW H)} {j : Nat} {a : Option Addr} {len cap fuel : Nat} {y : DataW H × List MemPlace} (hsz : (DataW.weightsEach Tryz.prog ts ds).all (· ≤ reachBytes) = true) (ht : ts[j]? = some 23) (hd : ds[j]? = some y.1)
    (hf : DataW.trod enc Tryz.prog w base spare held fuel 23 [.slice a len cap] = some y) :
    ∃ l : List ByteArray, len = l.length ∧ l.length ≤ cap ∧ Kd.C Kd.string w a l.length l ∧ l.length ≤ 8796093021952 := by
  rcases open_strings Tryz.underlying23 Tryz.underlying9 (by kernel_rfl) hf with ⟨hcs, _⟩ | ⟨x, l, c, ss, hcs, _, hl, hm, hz, hx, hcell, hws⟩
  · simp at hcs
    obtain ⟨rfl, rfl, rfl⟩ := hcs
    exact ⟨[], rfl, Nat.le_refl _, ⟨rfl, by simp, fun h => absurd h (by simp)⟩, by simp⟩
  · simp at hcs
    obtain ⟨rfl, rfl, rfl⟩ := hcs
    subst hx
    have z := sized_slice hsz ht hd Tryz.underlying23
    rw [show Tryz.prog.bytesOf 9 = 16 from by kernel_rfl] at z
    have hls : len ≤ ss.length := by rw [hz]; split <;> omega
    have hr : reachBytes = 140737488351232 := by decide
    simp only [strs, List.length_map, List.length_take, List.length_drop, hr] at z
    have hlt : (ss.take len).length = len := by rw [List.length_take]; omega
    refine ⟨ss.take len, hlt.symm, by omega, ⟨rfl, by omega, fun _ => ⟨x, rfl, fun j p hj => ?_⟩⟩, by omega⟩
    have hj1 := (List.getElem?_eq_some_iff.1 hj).1
    have hj2 : ss[j]? = some p := by rw [List.getElem?_take, if_pos (by omega)] at hj; exact hj
    refine ⟨[.string p], rfl, rfl, fun i u hu => ?_⟩
    match i, hu with
    | 0, hu =>
      obtain rfl := Option.some.inj hu
      have := hcell j (by omega)
      rw [List.getD_eq_getElem?_getD, hj2] at this
      rw [show Kd.string.sz = 1 from rfl, Nat.mul_one, Nat.add_zero]
      exact this
theorem facts_open {ts : List TypeId} {ds : List (DataW H)} {j : Nat} {v : Value} {d : DataW H} {ps : List MemPlace} (hsz : (DataW.weightsEach Tryz.prog ts ds).all (· ≤ reachBytes) = true) (ht : ts[j]? = some 25) (hd : ds[j]? = some d)
    (hv : ∃ cs, v = .agg cs ∧ cs.size = 5) (h : DataW.Trod enc Tryz.prog w base spare held 25 v d ps) :
    ∃ (AB : Option Addr) (cB : Nat) (lB : List ByteArray) (AL : Option Addr) (cL : Nat) (lL : List ByteArray) (fa fd fq : Int), v = .agg #[.slice AB lB.length cB, .slice AL lL.length cL, .int .i64 fa, .int .i64 fd, .int .i64 fq] ∧
      Kd.C Kd.string w AB lB.length lB ∧ lB.length ≤ cB ∧ lB.length ≤ 8796093021952 ∧ Kd.C Kd.string w AL lL.length lL ∧ lL.length ≤ cL ∧ lL.length ≤ 8796093021952 ∧ fa ≤ 9223372036854775807 ∧ fq ≤ 9223372036854775807 := by
  obtain ⟨cs, rfl, hsize⟩ := hv
  replace hsize : cs.toList.length = 5 := by rw [Array.length_toList]; exact hsize
  obtain ⟨fuel, hf⟩ := h
  obtain ⟨xs, n, _, hx, _, hxl, hg⟩ := DataW.trod_struct Tryz.underlying25 hf
  obtain ⟨l⟩ := cs
  obtain ⟨c0, c1, c2, c3, c4, rfl⟩ := len5 hsize
  obtain ⟨y0, y1, y2, y3, y4, rfl⟩ := lenx5 hxl
  simp only [Prod.mk.injEq] at hx
  obtain ⟨rfl, _⟩ := hx
  have hs := weights_all hsz ht hd Tryz.underlying25
  have g0 : DataW.trod enc Tryz.prog w base spare held n 23 [c0] = some y0 := field_of hg (i := 0) (o := 0) (c := 1) (t := 23) rfl rfl rfl (by kernel_rfl)
  have g1 : DataW.trod enc Tryz.prog w base spare held n 23 [c1] = some y1 := field_of hg (i := 1) (o := 1) (c := 1) (t := 23) rfl rfl rfl (by kernel_rfl)
  have g2 : DataW.trod enc Tryz.prog w base spare held n 2 [c2] = some y2 := field_of hg (i := 2) (o := 2) (c := 1) (t := 2) rfl rfl rfl (by kernel_rfl)
  have g3 : DataW.trod enc Tryz.prog w base spare held n 3 [c3] = some y3 := field_of hg (i := 3) (o := 3) (c := 1) (t := 3) rfl rfl rfl (by kernel_rfl)
  have g4 : DataW.trod enc Tryz.prog w base spare held n 2 [c4] = some y4 := field_of hg (i := 4) (o := 4) (c := 1) (t := 2) rfl rfl rfl (by kernel_rfl)
  obtain ⟨e2, he2, _, w2⟩ := DataW.trod_int (k := .i64) (by kernel_rfl) g2
  obtain ⟨e3, he3, _⟩ := DataW.trod_int (k := .i64) (by kernel_rfl) g3
  obtain ⟨e4, he4, _, w4⟩ := DataW.trod_int (k := .i64) (by kernel_rfl) g4
  have i2 : c2 = .int .i64 e2 := (List.cons.inj he2).1
  have i3 : c3 = .int .i64 e3 := (List.cons.inj he3).1
  have i4 : c4 = .int .i64 e4 := (List.cons.inj he4).1
  obtain ⟨A0, n0, p0, rfl⟩ : ∃ A n c, c0 = .slice A n c := by
    rcases open_slice Tryz.underlying23 g0 with ⟨hcs, _⟩ | ⟨x, l, c, _, _, _, _, hcs, _⟩
    · exact ⟨_, _, _, (List.cons.inj hcs).1⟩
    · exact ⟨_, _, _, (List.cons.inj hcs).1⟩
  obtain ⟨A1, n1, p1, rfl⟩ : ∃ A n c, c1 = .slice A n c := by
    rcases open_slice Tryz.underlying23 g1 with ⟨hcs, _⟩ | ⟨x, l, c, _, _, _, _, hcs, _⟩
    · exact ⟨_, _, _, (List.cons.inj hcs).1⟩
    · exact ⟨_, _, _, (List.cons.inj hcs).1⟩
  obtain ⟨lB, rfl, q1, q2, q3⟩ := texts_open (j := 0) hs rfl rfl g0
  obtain ⟨lL, rfl, q4, q5, q6⟩ := texts_open (j := 1) hs rfl rfl g1
  subst i2 i3 i4
  exact ⟨A0, p0, lB, A1, p1, lL, e2, e3, e4, rfl, q2, q1, q3, q5, q4, q6, wf_i64 w2, wf_i64 w4⟩
end
end Go.Proofs.YtlboolhjfffppaaGreatDoor.CTr
