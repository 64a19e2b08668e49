-- Written by this session's program (wip/tools/pr.py over the kit's print).
import Derived.Test.YtemaggbnfcbboaaDoorPALLx0
import Derived.Test.YtemaggbnfcbboaaDoorPALLx6
namespace Go.Proofs.YtemaggbnfcbboaaDoor.PALL
open Go.RowKit Go.Proofs.YtemaggbnfcbboaaDoorW.PrintWords Go.Proofs.YtemaggbnfcbboaaDoorW.PrintLast Go.Proofs.YtemaggbnfcbboaaDoorW.PrintMore
attribute [local go_sem] max2_int min2_int max_two min_two max_three min_three max_four min_four   -- for this text's walks alone
set_option linter.unusedVariables false
set_option linter.unusedSimpArgs false

/-! ### traits_bare: function 13 -/
def flat32 (x : S32) : List Value := [.int .i64 x.f0, .int .i64 x.f1, .string x.f2, .int .i64 x.f3, .int .i64 x.f4.f0, .int .i64 x.f4.f1]
theorem k32_M (x : S32) (w : World) (base : Nat) (ok : Nat → Prop) : k32.M w base ok x (flat32 x) := by
  refine ⟨[.int .i64 x.f0], _, rfl, rfl, ?_⟩
  refine ⟨[.int .i64 x.f1], _, rfl, rfl, ?_⟩
  refine ⟨[.string x.f2], _, rfl, rfl, ?_⟩
  refine ⟨[.int .i64 x.f3], _, rfl, rfl, ?_⟩
  refine ⟨[.int .i64 x.f4.f0], _, rfl, rfl, ?_⟩
  rfl
theorem flat_len (xs : List S32) : (xs.flatMap flat32).length = xs.length * 6 := by
  induction xs with
  | nil => rfl
  | cons x xs ih => rw [List.flatMap_cons, List.length_append, ih]; simp [flat32]; omega
theorem flat_at (w : World) (base : Nat) (ok : Nat → Prop) (xs : List S32) : ∀ (j : Nat) (p : S32), xs[j]? = some p → k32.M w base ok p (((xs.flatMap flat32).drop (j * 6)).take 6) := by
  induction xs with
  | nil => intro j p hj; simp at hj
  | cons x xs ih =>
    intro j p hj
    cases j with
    | zero =>
      obtain rfl : x = p := by simpa using hj
      have e : ((List.flatMap flat32 (x :: xs)).drop (0 * 6)).take 6 = flat32 x := by simp [flat32]
      rw [e]; exact k32_M x w base ok
    | succ j =>
      have e : ((List.flatMap flat32 (x :: xs)).drop ((j + 1) * 6)) = (List.flatMap flat32 xs).drop (j * 6) := by
        rw [List.flatMap_cons, show (j + 1) * 6 = (flat32 x).length + j * 6 from by simp [flat32]; omega, ← List.drop_drop]
        simp
      rw [e]; exact ih j p (by simpa using hj)
theorem reps32 (w : World) (base : Nat) (ok : Nat → Prop) (xs : List S32) : Reps (k32.M w base ok) 6 xs (xs.flatMap flat32) := ⟨flat_len xs, flat_at w base ok xs⟩
/-- a row of nodes that was made in a new block -/
theorem R_nodes (w : World) (base g : Nat) (xs : List S32) (hx : 0 < xs.length) (hl : xs.length ≤ 1000000) (hg : base ≤ g) (hb : w.heap[g]? = some (.cells (xs.flatMap flat32).toArray 32 (0, 0))) : Kd.R k32 32 w base (fun _ => True) (.slice (some ⟨g, 0, none⟩) xs.length xs.length) xs := by
  have hlen := flat_len xs
  have h6 : k32.sz = 6 := rfl
  refine ⟨fun _ _ => trivial, xs.flatMap flat32, ⟨by rw [h6]; exact hlen, Or.inr ⟨g, xs.length, _, rfl, hg, hb, Nat.le_refl _, by unfold maxLen; omega, by rw [h6, List.size_toArray]; exact hlen, by rw [h6, ← hlen]; simp [-List.length_flatMap]⟩⟩, ?_⟩
  rw [h6]; exact (reps32 w base _ xs)
theorem new2 (w : World) (o1 o2 : Obj) : ((w.alloc o1).alloc o2).heap[w.heap.size + 1]? = some o2 := by
  have h2 := (MapKept.heap_alloc (w.alloc o1) o2).1
  rwa [show (w.alloc o1).heap.size = w.heap.size + 1 from by simp] at h2
theorem belowN (w : World) (o1 o2 : Obj) : Below w.heap.size w ((w.alloc o1).alloc o2) := ((Below.refl _ _).alloc (Nat.le_refl _) _).alloc (by simp) _
def traits_bare.f (a0_0 a0_1 : Int) (a0_2 : ByteArray) (a0_3 a0_4 a0_5 : Int) (a1 : Bool) : Option (List S32) :=
  if a1 = true then
    if a0_0 = 6 ∨ a0_0 = 7 then (traits_opposite.f a0_3).map fun o => [⟨a0_0, a0_1, a0_2, o, ⟨a0_4, a0_5⟩⟩]
    else some [⟨3, 1, ⟨#[]⟩, 0, ⟨0, 0⟩⟩, ⟨a0_0, a0_1, a0_2, a0_3, ⟨a0_4, a0_5⟩⟩]
  else some [⟨a0_0, a0_1, a0_2, a0_3, ⟨a0_4, a0_5⟩⟩]
set_option maxRecDepth 100000 in
theorem traits_bare.calls (a0_0 a0_1 : Int) (a0_2 : ByteArray) (a0_3 a0_4 a0_5 : Int) (a1 : Bool) (r : List S32) (w : World) (h : traits_bare.f a0_0 a0_1 a0_2 a0_3 a0_4 a0_5 a1 = some r) :
    Calls Tryd.prog 13 #[.agg #[.int .i64 a0_0, .int .i64 a0_1, .string a0_2, .int .i64 a0_3, .int .i64 a0_4, .int .i64 a0_5], .bool a1] w fun e w' => ∃ v0_ : Value, e = .returned v0_ ∧ Kd.R k32 32 w' w.heap.size (fun _ => True) v0_ r ∧ Below w.heap.size w w' := by
  unfold traits_bare.f at h
  cases a1 with
  | false =>
    obtain rfl := Option.some.inj h
    go_enter Tryd.func13, Tryd.ntmps13
    go_wp2
    go_ret
    exact ⟨_, rfl, R_nodes _ _ (w.heap.size + 1) [⟨a0_0, a0_1, a0_2, a0_3, ⟨a0_4, a0_5⟩⟩] (by simp) (by simp) (Nat.le_succ _) (new2 w _ _), belowN _ _ _⟩
  | true =>
    rw [if_pos rfl] at h
    by_cases c1 : a0_0 = 6 ∨ a0_0 = 7
    · rw [if_pos c1] at h
      obtain ⟨o, ho, rfl⟩ := Option.map_eq_some_iff.mp h
      have fin : ∀ (A : Array Value), Kd.R k32 32 ((w.alloc (.cells A 32)).alloc (.cells #[.int .i64 a0_0, .int .i64 a0_1, .string a0_2, .int .i64 o, .int .i64 a0_4, .int .i64 a0_5] 32)) w.heap.size (fun _ => True) (.slice (some ⟨w.heap.size + 1, 0, none⟩) 1 1) [⟨a0_0, a0_1, a0_2, o, ⟨a0_4, a0_5⟩⟩] := fun A =>
        R_nodes _ _ (w.heap.size + 1) [⟨a0_0, a0_1, a0_2, o, ⟨a0_4, a0_5⟩⟩] (by simp) (by simp) (Nat.le_succ _) (new2 w _ _)
      rcases c1 with c1 | c1
      · have k6 : (a0_0 == 6) = true := by rw [c1]; rfl
        have k7 : (a0_0 == 7) = false := by rw [c1]; rfl
        clear c1
        unfold traits_opposite.f at ho
        by_cases o1 : a0_3 = 1
        · rw [if_pos o1] at ho
          obtain rfl := Option.some.inj ho
          have p1 : (a0_3 == 1) = true := beq_iff_eq.2 o1
          clear o1 ho
          go_enter Tryd.func13, Tryd.ntmps13
          go_wp2
          go_ret
          exact ⟨_, rfl, fin _, belowN _ _ _⟩
        · rw [if_neg o1] at ho
          have p1 : (a0_3 == 1) = false := beq_eq_false_iff_ne.2 o1
          by_cases o2 : a0_3 = 2
          · rw [if_pos o2] at ho
            obtain rfl := Option.some.inj ho
            have p2 : (a0_3 == 2) = true := beq_iff_eq.2 o2
            clear o1 o2 ho
            go_enter Tryd.func13, Tryd.ntmps13
            go_wp2
            go_ret
            exact ⟨_, rfl, fin _, belowN _ _ _⟩
          · rw [if_neg o2] at ho
            have p2 : (a0_3 == 2) = false := beq_eq_false_iff_ne.2 o2
            by_cases o3 : a0_3 = 3
            · rw [if_pos o3] at ho
              obtain rfl := Option.some.inj ho
              have p3 : (a0_3 == 3) = true := beq_iff_eq.2 o3
              clear o1 o2 o3 ho
              go_enter Tryd.func13, Tryd.ntmps13
              go_wp2
              go_ret
              exact ⟨_, rfl, fin _, belowN _ _ _⟩
            · rw [if_neg o3] at ho
              obtain rfl := Option.some.inj ho
              have p3 : (a0_3 == 3) = false := beq_eq_false_iff_ne.2 o3
              clear o1 o2 o3 ho
              go_enter Tryd.func13, Tryd.ntmps13
              go_wp2
              go_ret
              exact ⟨_, rfl, fin _, belowN _ _ _⟩
      · have k6 : (a0_0 == 6) = false := by rw [c1]; rfl
        have k7 : (a0_0 == 7) = true := by rw [c1]; rfl
        clear c1
        unfold traits_opposite.f at ho
        by_cases o1 : a0_3 = 1
        · rw [if_pos o1] at ho
          obtain rfl := Option.some.inj ho
          have p1 : (a0_3 == 1) = true := beq_iff_eq.2 o1
          clear o1 ho
          go_enter Tryd.func13, Tryd.ntmps13
          go_wp2
          go_ret
          exact ⟨_, rfl, fin _, belowN _ _ _⟩
        · rw [if_neg o1] at ho
          have p1 : (a0_3 == 1) = false := beq_eq_false_iff_ne.2 o1
          by_cases o2 : a0_3 = 2
          · rw [if_pos o2] at ho
            obtain rfl := Option.some.inj ho
            have p2 : (a0_3 == 2) = true := beq_iff_eq.2 o2
            clear o1 o2 ho
            go_enter Tryd.func13, Tryd.ntmps13
            go_wp2
            go_ret
            exact ⟨_, rfl, fin _, belowN _ _ _⟩
          · rw [if_neg o2] at ho
            have p2 : (a0_3 == 2) = false := beq_eq_false_iff_ne.2 o2
            by_cases o3 : a0_3 = 3
            · rw [if_pos o3] at ho
              obtain rfl := Option.some.inj ho
              have p3 : (a0_3 == 3) = true := beq_iff_eq.2 o3
              clear o1 o2 o3 ho
              go_enter Tryd.func13, Tryd.ntmps13
              go_wp2
              go_ret
              exact ⟨_, rfl, fin _, belowN _ _ _⟩
            · rw [if_neg o3] at ho
              obtain rfl := Option.some.inj ho
              have p3 : (a0_3 == 3) = false := beq_eq_false_iff_ne.2 o3
              clear o1 o2 o3 ho
              go_enter Tryd.func13, Tryd.ntmps13
              go_wp2
              go_ret
              exact ⟨_, rfl, fin _, belowN _ _ _⟩
    · rw [if_neg c1] at h
      obtain rfl := Option.some.inj h
      have k6 : (a0_0 == 6) = false := beq_eq_false_iff_ne.2 (fun e => c1 (Or.inl e))
      have k7 : (a0_0 == 7) = false := beq_eq_false_iff_ne.2 (fun e => c1 (Or.inr e))
      clear c1
      go_enter Tryd.func13, Tryd.ntmps13
      go_wp2
      go_ret
      exact ⟨_, rfl, R_nodes _ _ (w.heap.size + 1) [⟨3, 1, ⟨#[]⟩, 0, ⟨0, 0⟩⟩, ⟨a0_0, a0_1, a0_2, a0_3, ⟨a0_4, a0_5⟩⟩] (by simp) (by simp) (Nat.le_succ _) (new2 w _ _), belowN _ _ _⟩

-- NOT PRINTED: function 12 (traits_Plain_1)

end Go.Proofs.YtemaggbnfcbboaaDoor.PALL
