/- Names in lists of texts: what is named of two lists; nodes' names, sorted and each once. -/
import Derived.Test.YtlboolhjfffppaaGreatDoorCTrBase
import Derived.Test.YtlboolhjfffppaaGreatDoorPBLIx15
import Derived.Test.YtlboolhjfffppaaGreatDoorPBLIx16
import Derived.Lib.SlicesCompact
import Derived.Sort.Walk0
namespace Go.Proofs.YtlboolhjfffppaaGreatDoor.CTr
open Go Go.RowKit Go.Proofs.YtlboolhjfffppaaGreatDoor.PBLI Go.Proofs.YtlboolhjfffppaaGreatDoorW.PrintWords Go.Proofs.YtlboolhjfffppaaGreatDoorW.PrintLast
set_option linter.unusedVariables false
abbrev BL := List UInt8
theorem ll_lt {a b : BL} (h : a ≤ b) (hne : a ≠ b) : a < b := by
  refine Decidable.byContradiction fun hn => hne ?_
  exact List.le_antisymm h (List.not_lt.1 hn)
theorem comp_inv (zs : List BL) (hs : zs.Pairwise (· ≤ ·)) : ∀ m, m ≤ zs.length → (Lib.compactUpTo zs.toArray m).Pairwise (· < ·) ∧ ∀ x, x ∈ Lib.compactUpTo zs.toArray m ↔ x ∈ zs.take m
  | 0, _ => by
    have : Lib.compactUpTo zs.toArray 0 = [] := rfl
    rw [this]
    exact ⟨List.Pairwise.nil, fun x => by simp⟩
  | m + 1, h => by
    obtain ⟨h1, h2⟩ := comp_inv zs hs m (by omega)
    have hm : m < zs.length := by omega
    have hg : (zs.toArray)[m]! = zs[m] := by rw [getElem!_pos zs.toArray m (by simpa using hm)]; simp
    have ht : zs.take (m + 1) = zs.take m ++ [zs[m]] := by rw [List.take_append_getElem hm]
    have hle : ∀ x ∈ zs.take m, x ≤ zs[m] := fun x hx => by
      have := hs
      rw [← List.take_append_drop m zs] at this
      have := (List.pairwise_append.1 this).2.2 x hx zs[m] (by rw [List.drop_eq_getElem_cons hm]; exact List.mem_cons_self)
      exact this
    rw [Lib.compactUpTo_succ]
    by_cases hk : Lib.keeps zs.toArray m = true
    · rw [if_pos hk, hg]
      refine ⟨?_, fun x => ?_⟩
      · refine List.pairwise_append.2 ⟨h1, List.pairwise_singleton _ _, fun a ha b hb => ?_⟩
        obtain rfl := List.mem_singleton.1 hb
        have ha' := (h2 a).1 ha
        by_cases hm0 : m = 0
        · subst hm0; simp at ha'
        · have hm1 : m - 1 < zs.length := by omega
          have hg1 : (zs.toArray)[m - 1]! = zs[m - 1] := by rw [getElem!_pos zs.toArray (m - 1) (by simpa using hm1)]; simp
          have hne : zs[m] ≠ zs[m - 1] := by
            have := hk
            unfold Lib.keeps at this
            rw [hg, hg1] at this
            rcases of_decide_eq_true this with h | h
            · exact absurd h hm0
            · exact h
          have hal : a ≤ zs[m - 1] := by
            have e : zs.take m = zs.take (m - 1) ++ [zs[m - 1]] := by rw [List.take_append_getElem hm1]; congr 1; omega
            rw [e] at ha'
            rcases List.mem_append.1 ha' with h | h
            · have := hs
              rw [← List.take_append_drop (m - 1) zs] at this
              exact (List.pairwise_append.1 this).2.2 a h zs[m - 1] (by rw [List.drop_eq_getElem_cons hm1]; exact List.mem_cons_self)
            · rw [List.mem_singleton.1 h]; exact List.le_refl _
          refine ll_lt (hle a ha') fun e => ?_
          subst e
          exact hne (List.le_antisymm hal (hle _ (by
            have e : zs.take m = zs.take (m - 1) ++ [zs[m - 1]] := by rw [List.take_append_getElem hm1]; congr 1; omega
            rw [e]; exact List.mem_append_right _ (List.mem_singleton.2 rfl))))
      · rw [ht, List.mem_append, List.mem_append, h2]
    · rw [if_neg hk, List.append_nil]
      refine ⟨h1, fun x => ?_⟩
      rw [h2, ht, List.mem_append]
      refine ⟨Or.inl, fun q => q.elim id fun q => ?_⟩
      have hk2 : ¬ (m = 0 ∨ zs.toArray[m]! ≠ zs.toArray[m - 1]!) := fun q => hk (decide_eq_true q)
      have hm0 : m ≠ 0 := fun e => hk2 (Or.inl e)
      have hm1 : m - 1 < zs.length := by omega
      have hg1 : (zs.toArray)[m - 1]! = zs[m - 1] := by rw [getElem!_pos zs.toArray (m - 1) (by simpa using hm1)]; simp
      have he : zs[m] = zs[m - 1] := by
        rw [← hg, ← hg1]
        exact Decidable.byContradiction fun e => hk2 (Or.inr e)
      have e : zs.take m = zs.take (m - 1) ++ [zs[m - 1]] := by rw [List.take_append_getElem hm1]; congr 1; omega
      rw [List.mem_singleton.1 q, he, e]
      exact List.mem_append_right _ (List.mem_singleton.2 rfl)
theorem sort_le (l : List BL) : (l.mergeSort fun x y => decide (x ≤ y)).Pairwise (· ≤ ·) := by
  have := List.pairwise_mergeSort (le := fun (x y : BL) => decide (x ≤ y)) (fun a b c h1 h2 => decide_eq_true (List.le_trans (of_decide_eq_true h1) (of_decide_eq_true h2))) (fun a b => by
    rw [Bool.or_eq_true, decide_eq_true_iff, decide_eq_true_iff]; exact List.le_total a b) l
  exact this.imp fun h => of_decide_eq_true h
theorem comp_sort (l : List BL) : (Lib.compact (l.mergeSort fun x y => decide (x ≤ y))).Pairwise (· < ·) ∧ ∀ x, x ∈ Lib.compact (l.mergeSort fun x y => decide (x ≤ y)) ↔ x ∈ l := by
  obtain ⟨h1, h2⟩ := comp_inv (l.mergeSort fun x y => decide (x ≤ y)) (sort_le l) _ (Nat.le_refl _)
  refine ⟨h1, fun x => ?_⟩
  unfold Lib.compact
  rw [h2, List.take_length, List.mem_mergeSort]
def Rise (x ns : List ByteArray) : Prop := (rawT x).Pairwise (· < ·) ∧ ∀ z, z ∈ rawT x ↔ z ∈ rawT ns
theorem raw_unraw (l : List BL) : rawT (unrawT l) = l := by
  unfold rawT unrawT; rw [List.map_map]; exact List.map_id'' (fun _ => rfl) l
theorem raw_len (x : List ByteArray) : (rawT x).length = x.length := by unfold rawT; rw [List.length_map]
theorem raw_append (x y : List ByteArray) : rawT (x ++ y) = rawT x ++ rawT y := by unfold rawT; rw [List.map_append]
def namesK (kd : Int) (l : List S44) : List ByteArray := (l.filter fun n => decide (n.f0 = kd)).map fun n => n.f2
theorem names_snoc (kd : Int) (l : List S44) (n : S44) : namesK kd (l ++ [n]) = if n.f0 = kd then namesK kd l ++ [n.f2] else namesK kd l := by
  unfold namesK
  rw [List.filter_append, List.map_append]
  by_cases h : n.f0 = kd
  · rw [if_pos h]; simp [List.filter, h]
  · rw [if_neg h]; simp [List.filter, h]
theorem names_len (kd : Int) (l : List S44) : (namesK kd l).length ≤ l.length := by
  unfold namesK; rw [List.length_map]; exact List.length_filter_le _ _
theorem take_snocN (l : List S44) (i : Nat) (h : i < l.length) : l.take (i + 1) = l.take i ++ [rd_T44 l (i : Int)] := by
  rw [← List.take_append_getElem h]
  unfold rd_T44
  rw [Int.toNat_natCast, List.getD_eq_getElem?_getD, List.getElem?_eq_getElem h]; rfl
def tidy (l : List ByteArray) : List ByteArray := unrawT (Lib.compact ((rawT l).mergeSort fun x y => decide (x ≤ y)))
theorem tidy_rise (l : List ByteArray) : Rise (tidy l) l := by
  obtain ⟨h1, h2⟩ := comp_sort (rawT l)
  unfold Rise tidy
  rw [raw_unraw]
  exact ⟨h1, h2⟩
theorem names_loop (l : List S44) (hl : l.length ≤ 64) : ∀ (m i k : Nat), i + m = l.length →
    traits_Names.l0 (k + m + 1) (namesK 4 (l.take i)) (namesK 5 (l.take i)) l (l.length : Int) (i : Int) = some (tidy (namesK 4 l), tidy (namesK 5 l), 0)
  | 0, i, k, hi => by
    rw [List.take_of_length_le (by omega), traits_Names.l0, if_neg (by omega)]
    have h4 := names_len 4 l
    have h5 := names_len 5 l
    rw [slices_Sort_string_string.f, if_pos (by omega), Option.bind_some, slices_Sort_string_string.f, if_pos (by omega), Option.bind_some, slices_Compact_string_string.f, Option.bind_some, slices_Compact_string_string.f, Option.bind_some, raw_unraw, raw_unraw]; rfl
  | m + 1, i, k, hi => by
    have ht := take_snocN l i (by omega)
    have ih := names_loop l hl m (i + 1) k (by omega)
    obtain ⟨n, hn⟩ : ∃ n, rd_T44 l (i : Int) = n := ⟨_, rfl⟩
    rw [hn] at ht
    have h4 := names_len 4 (l.take i)
    have h5 := names_len 5 (l.take i)
    rw [List.length_take] at h4 h5
    rw [ht, names_snoc, names_snoc] at ih
    rw [show k + (m + 1) + 1 = (k + m + 1) + 1 from by omega, traits_Names.l0, if_pos (by omega), if_pos (by omega), if_pos (by omega), wrap_add1 i (by omega), hn]
    by_cases c4 : n.f0 = 4
    · rw [if_pos c4, if_neg (show ¬ n.f0 = 5 by omega)] at ih
      rw [if_pos c4, if_pos (by omega)]; exact ih
    · rw [if_neg c4] at ih
      rw [if_neg c4]
      by_cases c5 : n.f0 = 5
      · rw [if_pos c5] at ih
        rw [if_pos c5, if_pos (by omega)]; exact ih
      · rw [if_neg c5] at ih
        rw [if_neg c5]; exact ih
theorem names_flat (l : List S44) (h64 : l.length ≤ 64) (k : Nat) (hk : 6000 ≤ k) (hc : traits_Check.f k l = some 0) : traits_Names.f k l = some (tidy (namesK 4 l), tidy (namesK 5 l), 0) := by
  unfold traits_Names.f
  obtain ⟨j, rfl⟩ : ∃ j, k = j + l.length + 1 := ⟨k - l.length - 1, by omega⟩
  have h := names_loop l h64 l.length 0 j (by omega)
  rw [hc, Option.bind_some, if_pos rfl]
  exact h
end Go.Proofs.YtlboolhjfffppaaGreatDoor.CTr
