/- The walk of TraitTables: two conditions held, and their Not, Or and And. -/
import Derived.Test.YtlboolhjfffppaaDoorTblUnder
namespace Go.Proofs.YtlboolhjfffppaaDoor.PTBL
open Go.RowKit Go.Proofs.YtlboolhjfffppaaDoorW.PrintWords Go.Proofs.YtlboolhjfffppaaDoorW.PrintLast Go.Proofs.YtlboolhjfffppaaDoorW.PrintMore
set_option linter.unusedVariables false
set_option linter.unusedSimpArgs false
theorem rows_of {α : Type} {d : Kd α} {e : Nat} {w : World} {base : Nat} {ok : Nat → Prop} {A : Option Addr} {n c : Nat} {xs : List α} (h : d.R e w base ok (.slice A n c) xs) : n = xs.length ∧ d.C w A xs.length xs ∧ xs.length ≤ c := by
  obtain ⟨h0, h1, h2⟩ := Kd.R_reads' h
  exact ⟨h0, h2, by omega⟩
set_option maxHeartbeats 4000000 in
set_option maxRecDepth 100000 in
theorem idle_calls (k : Nat) (A0 A1 : Option Addr) (c0 c1 : Nat) (l0 l1 : List S35) (AB : Option Addr) (cB : Nat) (lB : List ByteArray) (AL : Option Addr) (cL : Nat) (lL : List ByteArray) (fa fd fq : Int) (x y : Bool) (i j : Int) (w : World)
    (hr0 : Kd.C k35 w A0 l0.length l0) (hc0 : l0.length ≤ c0) (hr1 : Kd.C k35 w A1 l1.length l1) (hc1 : l1.length ≤ c1) (hCB : Kd.C Kd.string w AB lB.length lB) (hcB : lB.length ≤ cB) (hCL : Kd.C Kd.string w AL lL.length lL) (hcL : lL.length ≤ cL) (hG : GT w)
    (p1 : traits_Holds.f k l0 lB lL fa fd fq = some (x, i)) (p2 : traits_Holds.f k l1 lB lL fa fd fq = some (y, j)) (p3 : tollbooklaw13_awake.f k = some true) (hid : i ≠ 0 ∨ j ≠ 0 ∨ l0.length = 0 ∨ l1.length = 0) :
    Calls Tryd.prog 3 #[.slice A0 l0.length c0, .slice A1 l1.length c1, .agg #[.slice AB lB.length cB, .slice AL lL.length cL, .int .i64 fa, .int .i64 fd, .int .i64 fq]] w fun e w' => e = .returned (.bool true) ∧ Below w.heap.size w w' := by
  have K1 := fun (W : World) (hW : Below w.heap.size w W) => traits_Holds.calls k A0 c0 l0 AB cB lB AL cL lL fa fd fq x i W (Kd.C_below hr0 hW) hc0 (Kd.C_below hCB hW) hcB (Kd.C_below hCL hW) hcL p1 (hG.at hW)
  have K2 := fun (W : World) (hW : Below w.heap.size w W) => traits_Holds.calls k A1 c1 l1 AB cB lB AL cL lL fa fd fq y j W (Kd.C_below hr1 hW) hc1 (Kd.C_below hCB hW) hcB (Kd.C_below hCL hW) hcL p2 (hG.at hW)
  have K3 := fun (W : World) (hW : Below w.heap.size w W) => tollbooklaw13_awake.calls k W p3 (hG.at hW)
  clear hr0 hr1 hCB hCL hG p1 p2 p3
  go_enter Tryd.func3, Tryd.ntmps3
  go_wp2_with fail
  obtain ⟨oF, hoF⟩ : ∃ o, o = Obj.cells #[.slice AB lB.length cB, .slice AL lL.length cL, .int .i64 fa, .int .i64 fd, .int .i64 fq] 25 := ⟨_, rfl⟩
  have hb0 : Below w.heap.size w (w.alloc oF) := (Below.refl _ _).alloc (Nat.le_refl _) _
  have HC : Hid (∀ W : World, Below (w.alloc oF).heap.size (w.alloc oF) W → Below w.heap.size w W ∧ W.cell? ⟨w.heap.size, 0, none⟩ = some (.slice AB lB.length cB) ∧ W.cell? ⟨w.heap.size, 1, none⟩ = some (.slice AL lL.length cL) ∧ W.cell? ⟨w.heap.size, 2, none⟩ = some (.int .i64 fa) ∧ W.cell? ⟨w.heap.size, 3, none⟩ = some (.int .i64 fd) ∧ W.cell? ⟨w.heap.size, 4, none⟩ = some (.int .i64 fq)) := Lib.hid fun W hW => by
    have e1 := blk_below (MapKept.heap_alloc w oF).1 hW
    rw [hoF] at e1
    exact ⟨hb0.trans (hW.mono hb0.size), (Joins.cell_of_block e1 0).trans rfl, (Joins.cell_of_block e1 1).trans rfl, (Joins.cell_of_block e1 2).trans rfl, (Joins.cell_of_block e1 3).trans rfl, (Joins.cell_of_block e1 4).trans rfl⟩
  rw [← hoF]
  refine (K1 _ hb0).mono ?_
  rintro e w1 ⟨rfl, hb1⟩
  obtain ⟨H1, a0, a1, a2, a3, a4⟩ := HC.out _ hb1
  go_wp2_with fail
  refine (K2 _ H1).mono ?_
  rintro e w2 ⟨rfl, hb2⟩
  have hb2' := hb1.trans (hb2.mono hb1.size)
  have H2 := (HC.out _ hb2').1
  clear a0 a1 a2 a3 a4 K1 K2 hb1 H1
  by_cases h1 : i = 0
  · subst h1
    by_cases h2 : j = 0
    · subst h2
      by_cases h3 : l0.length = 0
      · rw [h3] at *
        go_wp2_with fail
        refine (K3 _ H2).mono ?_
        rintro e w3 ⟨rfl, hb3⟩
        have hb3' := hb2'.trans (hb3.mono hb2'.size)
        go_wp2_with fail
        go_ret
        exact ⟨rfl, (HC.out _ hb3').1⟩
      · have h4 : l1.length = 0 := by omega
        rw [h4] at *
        have h3' : ((l0.length : Int) == 0) = false := beq_eq_false_iff_ne.2 (by omega)
        go_wp2_with fail
        refine (K3 _ H2).mono ?_
        rintro e w3 ⟨rfl, hb3⟩
        have hb3' := hb2'.trans (hb3.mono hb2'.size)
        go_wp2_with fail
        go_ret
        exact ⟨rfl, (HC.out _ hb3').1⟩
    · have h2' : (j == 0) = false := beq_eq_false_iff_ne.2 h2
      have h2'' : (!(j == 0)) = true := by rw [h2']; rfl
      go_wp2_with fail
      refine (K3 _ H2).mono ?_
      rintro e w3 ⟨rfl, hb3⟩
      have hb3' := hb2'.trans (hb3.mono hb2'.size)
      go_wp2_with fail
      go_ret
      exact ⟨rfl, (HC.out _ hb3').1⟩
  · have h1' : (i == 0) = false := beq_eq_false_iff_ne.2 h1
    have h1'' : (!(i == 0)) = true := by rw [h1']; rfl
    go_wp2_with fail
    refine (K3 _ H2).mono ?_
    rintro e w3 ⟨rfl, hb3⟩
    have hb3' := hb2'.trans (hb3.mono hb2'.size)
    go_wp2_with fail
    go_ret
    exact ⟨rfl, (HC.out _ hb3').1⟩
set_option maxHeartbeats 8000000 in
set_option maxRecDepth 100000 in
theorem tables_calls (k : Nat) (A0 A1 : Option Addr) (c0 c1 : Nat) (l0 l1 : List S35) (AB : Option Addr) (cB : Nat) (lB : List ByteArray) (AL : Option Addr) (cL : Nat) (lL : List ByteArray) (fa fd fq : Int) (x y n o u : Bool) (h i j : Int) (w : World)
    (hr0 : Kd.C k35 w A0 l0.length l0) (hc0 : l0.length ≤ c0) (hr1 : Kd.C k35 w A1 l1.length l1) (hc1 : l1.length ≤ c1) (hCB : Kd.C Kd.string w AB lB.length lB) (hcB : lB.length ≤ cB) (hCL : Kd.C Kd.string w AL lL.length lL) (hcL : lL.length ≤ cL) (hG : GT w)
    (ha0 : 1 ≤ l0.length) (ha1 : l0.length ≤ 64) (hb0 : 1 ≤ l1.length) (hb1 : l1.length ≤ 64) (ha2 : ∀ kind : Int, kind = 1 ∨ kind = 2 → (rd_T35 l0 0).f0 = kind → 2 ≤ l0.length) (hb2 : ∀ kind : Int, kind = 1 ∨ kind = 2 → (rd_T35 l1 0).f0 = kind → 2 ≤ l1.length)
    (lo lu : List S35) (elo : (stU 1 l0 l1 2).1 :: (stU 1 l0 l1 2).2 = lo) (elu : (stU 2 l0 l1 2).1 :: (stU 2 l0 l1 2).2 = lu)
    (p1 : traits_Holds.f k l0 lB lL fa fd fq = some (x, 0)) (p2 : traits_Holds.f k l1 lB lL fa fd fq = some (y, 0))
    (p3 : traits_Holds.f k (⟨3, 1, ⟨#[]⟩, 0, ⟨0, 0⟩⟩ :: l0) lB lL fa fd fq = some (n, h)) (p4 : traits_Holds.f k lo lB lL fa fd fq = some (o, i)) (p5 : traits_Holds.f k lu lB lL fa fd fq = some (u, j))
    (p6 : traits_Check.f k (⟨3, 1, ⟨#[]⟩, 0, ⟨0, 0⟩⟩ :: l0) = some h) (p7 : traits_Check.f k lo = some i) (p8 : traits_Check.f k lu = some j) (p9 : tollbooklaw13_awake.f k = some true)
    (hn : (h = 0 ∧ n = !x) ∨ (h = 131 ∧ n = false)) (ho : (i = 0 ∧ o = (x || y)) ∨ (i = 131 ∧ o = false)) (hu : (j = 0 ∧ u = (x && y)) ∨ (j = 131 ∧ u = false)) :
    Calls Tryd.prog 3 #[.slice A0 l0.length c0, .slice A1 l1.length c1, .agg #[.slice AB lB.length cB, .slice AL lL.length cL, .int .i64 fa, .int .i64 fd, .int .i64 fq]] w fun e w' => e = .returned (.bool true) ∧ Below w.heap.size w w' := by
  have KH := fun (W : World) (A : Option Addr) (c : Nat) (l : List S35) (b : Bool) (e : Int) (hW : Below w.heap.size w W) (hX : Kd.C k35 W A l.length l) (hc : l.length ≤ c) (p : traits_Holds.f k l lB lL fa fd fq = some (b, e)) => traits_Holds.calls k A c l AB cB lB AL cL lL fa fd fq b e W hX hc (Kd.C_below hCB hW) hcB (Kd.C_below hCL hW) hcL p (hG.at hW)
  have KC := fun (W : World) (A : Option Addr) (c : Nat) (l : List S35) (e : Int) (hW : Below w.heap.size w W) (hX : Kd.C k35 W A l.length l) (hc : l.length ≤ c) (p : traits_Check.f k l = some e) => traits_Check.calls k A c l e W hX hc p (hG.at hW)
  have KU := fun (W : World) (kind : Int) (hk : kind = 1 ∨ kind = 2) (hW : Below w.heap.size w W) => under_calls kind A0 A1 c0 c1 l0 l1 W (Kd.C_below hr0 hW) (Kd.C_below hr1 hW) hc0 hc1 ha0 ha1 hb0 hb1 (ha2 kind hk) (hb2 kind hk)
  have K9 := fun (W : World) (hW : Below w.heap.size w W) => tollbooklaw13_awake.calls k W p9 (hG.at hW)
  clear hCB hCL hG p9 ha2 hb2
  go_enter Tryd.func3, Tryd.ntmps3
  go_wp2_with fail
  obtain ⟨oF, hoF⟩ : ∃ o, o = Obj.cells #[.slice AB lB.length cB, .slice AL lL.length cL, .int .i64 fa, .int .i64 fd, .int .i64 fq] 25 := ⟨_, rfl⟩
  have hb0' : Below w.heap.size w (w.alloc oF) := (Below.refl _ _).alloc (Nat.le_refl _) _
  have HC : Hid (∀ W : World, Below (w.alloc oF).heap.size (w.alloc oF) W → Below w.heap.size w W ∧ W.cell? ⟨w.heap.size, 0, none⟩ = some (.slice AB lB.length cB) ∧ W.cell? ⟨w.heap.size, 1, none⟩ = some (.slice AL lL.length cL) ∧ W.cell? ⟨w.heap.size, 2, none⟩ = some (.int .i64 fa) ∧ W.cell? ⟨w.heap.size, 3, none⟩ = some (.int .i64 fd) ∧ W.cell? ⟨w.heap.size, 4, none⟩ = some (.int .i64 fq)) := Lib.hid fun W hW => by
    have e1 := blk_below (MapKept.heap_alloc w oF).1 hW
    rw [hoF] at e1
    exact ⟨hb0'.trans (hW.mono hb0'.size), (Joins.cell_of_block e1 0).trans rfl, (Joins.cell_of_block e1 1).trans rfl, (Joins.cell_of_block e1 2).trans rfl, (Joins.cell_of_block e1 3).trans rfl, (Joins.cell_of_block e1 4).trans rfl⟩
  rw [← hoF]
  refine (KH _ A0 c0 l0 x 0 hb0' (Kd.C_below hr0 hb0') hc0 p1).mono ?_
  rintro e w1 ⟨rfl, hb1'⟩
  obtain ⟨H1, a0, a1, a2, a3, a4⟩ := HC.out _ hb1'
  go_wp2_with fail
  refine (KH _ A1 c1 l1 y 0 H1 (Kd.C_below hr1 H1) hc1 p2).mono ?_
  rintro e w2 ⟨rfl, hb2⟩
  have hb2' := hb1'.trans (hb2.mono hb1'.size)
  clear a0 a1 a2 a3 a4
  have H2 := (HC.out _ hb2').1
  have q1 : ((l0.length : Int) == 0) = false := beq_eq_false_iff_ne.2 (by omega)
  have q2 : ((l1.length : Int) == 0) = false := beq_eq_false_iff_ne.2 (by omega)
  have hb3 : Below w2.heap.size w2 (w2.alloc (.cells #[.int .i64 3, .int .i64 1, .string ⟨#[]⟩, .int .i64 0, .int .i64 0, .int .i64 0] 35)) := (Below.refl _ _).alloc (Nat.le_refl _) _
  have hRN : Kd.R k35 35 (w2.alloc (.cells #[.int .i64 3, .int .i64 1, .string ⟨#[]⟩, .int .i64 0, .int .i64 0, .int .i64 0] 35)) w2.heap.size (fun _ => True) (.slice (some ⟨w2.heap.size, 0, none⟩) 1 1) [⟨3, 1, ⟨#[]⟩, 0, ⟨0, 0⟩⟩] := R_nodes _ _ w2.heap.size [⟨3, 1, ⟨#[]⟩, 0, ⟨0, 0⟩⟩] (by simp) (by simp) (Nat.le_refl _) (MapKept.heap_alloc w2 _).1
  have hX2 := Kd.C_below hr0 (H2.trans (hb3.mono H2.size))
  have hs3 := hb3.size
  go_wp2_with ((with_reducible refine gate_builtin (b := .append) (xs := #[.tmp 51, .tmp 52]) rfl ?_); at_builtin; go_must (refine Kd.R_append_rows k35 (Rr := k35.K _) (w0 := w2) w2.heap.size rfl (.tmp 51) (.tmp 52) 22 35 (.agg #[(.int .i64 0), (.int .i64 0), (.string ⟨#[]⟩), (.int .i64 0), (.int .i64 0), (.int .i64 0)]) 56 rfl Tryd.underlying22 info35 rfl (by decide) (by omega) (.slice (some ⟨w2.heap.size, 0, none⟩) 1 1) [⟨3, 1, ⟨#[]⟩, 0, ⟨0, 0⟩⟩] l0 _ _ _ (fun _ => True) (fun _ => False) rfl rfl hRN hX2 (fun x cs e => by rw [k35_open e]; exact k32_M x _ _ _) (fun _ h => h.elim) (fun _ _ => trivial) hb3 hs3 (by simp; omega) ?_; intro v3 w3 hR3 hb4 _ _; clear hRN hX2; obtain ⟨A3, c3, rfl⟩ := Kd.R_slice hR3; have hb3' := hb2'.trans (hb4.mono hb2'.size); have H3 := (HC.out _ hb3').1; obtain ⟨_, hX3, hm3⟩ := rows_of hR3))
  refine (KU _ 1 (Or.inl rfl) H3).mono ?_
  rintro e w4 ⟨v4, rfl, hR4, hb5⟩
  rw [elo] at hR4
  obtain ⟨A4, c4, rfl⟩ := Kd.R_slice hR4
  have hb4' := hb3'.trans (hb5.mono hb3'.size)
  have H4 := (HC.out _ hb4').1
  have hX4 := Kd.C_below hX3 hb5
  obtain ⟨_, hY4, hm4⟩ := rows_of hR4
  go_wp2_with fail
  refine (KU _ 2 (Or.inr rfl) H4).mono ?_
  rintro e w5 ⟨v5, rfl, hR5, hb6⟩
  rw [elu] at hR5
  obtain ⟨A5, c5, rfl⟩ := Kd.R_slice hR5
  have hb5' := hb4'.trans (hb6.mono hb4'.size)
  obtain ⟨H5, a0, a1, a2, a3, a4⟩ := HC.out _ hb5'
  have hX5 := Kd.C_below hX4 hb6
  have hY5 := Kd.C_below hY4 hb6
  obtain ⟨_, hZ5, hm5⟩ := rows_of hR5
  clear KU hX3 hX4 hY4 hR3 hR4 hR5 elo elu
  go_wp2_with fail
  refine (KH _ A3 c3 _ n h H5 hX5 hm3 p3).mono ?_
  rintro e w6 ⟨rfl, hb7⟩
  have hb6' := hb5'.trans (hb7.mono hb5'.size)
  clear a0 a1 a2 a3 a4
  obtain ⟨H6, a0, a1, a2, a3, a4⟩ := HC.out _ hb6'
  have hX6 := Kd.C_below hX5 hb7
  have hY6 := Kd.C_below hY5 hb7
  have hZ6 := Kd.C_below hZ5 hb7
  go_wp2_with fail
  refine (KH _ A4 c4 _ o i H6 hY6 hm4 p4).mono ?_
  rintro e w7 ⟨rfl, hb8⟩
  have hb7' := hb6'.trans (hb8.mono hb6'.size)
  clear a0 a1 a2 a3 a4
  obtain ⟨H7, a0, a1, a2, a3, a4⟩ := HC.out _ hb7'
  have hX7 := Kd.C_below hX6 hb8
  have hY7 := Kd.C_below hY6 hb8
  have hZ7 := Kd.C_below hZ6 hb8
  go_wp2_with fail
  refine (KH _ A5 c5 _ u j H7 hZ7 hm5 p5).mono ?_
  rintro e w8 ⟨rfl, hb9⟩
  have hb8' := hb7'.trans (hb9.mono hb7'.size)
  clear a0 a1 a2 a3 a4
  have H8 := (HC.out _ hb8').1
  have hX8 := Kd.C_below hX7 hb9
  have hY8 := Kd.C_below hY7 hb9
  have hZ8 := Kd.C_below hZ7 hb9
  clear hX5 hX6 hX7 hY5 hY6 hY7 hZ5 hZ6 hZ7 KH p1 p2 p3 p4 p5 hb1' hb2' hb3' hb4' hb5' hb6' hb7' H1 H2 H3 H4 H5 H6 H7
  have HX : Hid (∀ W : World, Below w8.heap.size w8 W → Below w.heap.size w W ∧ Kd.C k35 W A3 (⟨3, 1, ⟨#[]⟩, 0, ⟨0, 0⟩⟩ :: l0 : List S35).length (⟨3, 1, ⟨#[]⟩, 0, ⟨0, 0⟩⟩ :: l0) ∧ Kd.C k35 W A4 lo.length lo ∧ Kd.C k35 W A5 lu.length lu) := Lib.hid fun W hW => ⟨H8.trans (hW.mono H8.size), Kd.C_below hX8 hW, Kd.C_below hY8 hW, Kd.C_below hZ8 hW⟩
  have hbW : Below w8.heap.size w8 w8 := Below.refl _ _
  clear hX8 hY8 hZ8 HC hb8' hb9 H8
  have hyy : (y == y) = true := beq_self_eq_true y
  cases x
  · simp only [Bool.not_false, Bool.false_or, Bool.false_and] at hn ho hu
    rcases hn with ⟨rfl, rfl⟩ | ⟨rfl, rfl⟩ <;> rcases ho with ⟨rfl, rfl⟩ | ⟨rfl, rfl⟩ <;> rcases hu with ⟨rfl, rfl⟩ | ⟨rfl, rfl⟩
    all_goals (go_wp2_with (first | (go_at_call 7; go_must ((first | (with_reducible refine (KC _ A4 c4 _ _ (HX.out _ hbW).1 (HX.out _ hbW).2.2.1 hm4 p7).mono ?_) | (with_reducible refine (KC _ A5 c5 _ _ (HX.out _ hbW).1 (HX.out _ hbW).2.2.2 hm5 p8).mono ?_) | refine (KC _ A3 c3 _ _ (HX.out _ hbW).1 (HX.out _ hbW).2.1 hm3 p6).mono ?_); rintro e w9 ⟨rfl, hb9⟩; replace hbW := hbW.trans (hb9.mono hbW.size))) | (go_at_call 5; go_must (refine (K9 _ (HX.out _ hbW).1).mono ?_; rintro e w9 ⟨rfl, hb9⟩; replace hbW := hbW.trans (hb9.mono hbW.size)))))
    all_goals (go_ret; exact ⟨rfl, (HX.out _ hbW).1⟩)
  · simp only [Bool.not_true, Bool.true_or, Bool.true_and] at hn ho hu
    rcases hn with ⟨rfl, rfl⟩ | ⟨rfl, rfl⟩ <;> rcases ho with ⟨rfl, rfl⟩ | ⟨rfl, rfl⟩ <;> rcases hu with ⟨rfl, rfl⟩ | ⟨rfl, rfl⟩
    all_goals (go_wp2_with (first | (go_at_call 7; go_must ((first | (with_reducible refine (KC _ A4 c4 _ _ (HX.out _ hbW).1 (HX.out _ hbW).2.2.1 hm4 p7).mono ?_) | (with_reducible refine (KC _ A5 c5 _ _ (HX.out _ hbW).1 (HX.out _ hbW).2.2.2 hm5 p8).mono ?_) | refine (KC _ A3 c3 _ _ (HX.out _ hbW).1 (HX.out _ hbW).2.1 hm3 p6).mono ?_); rintro e w9 ⟨rfl, hb9⟩; replace hbW := hbW.trans (hb9.mono hbW.size))) | (go_at_call 5; go_must (refine (K9 _ (HX.out _ hbW).1).mono ?_; rintro e w9 ⟨rfl, hb9⟩; replace hbW := hbW.trans (hb9.mono hbW.size)))))
    all_goals (go_ret; exact ⟨rfl, (HX.out _ hbW).1⟩)
end Go.Proofs.YtlboolhjfffppaaDoor.PTBL
