/- Made plain and named: the program and the reference answer alike, for any nodes. -/
import Derived.Test.YtcljnjnlafkieaaGreatDoorRCTrPlain
import Derived.Test.YtcljnjnlafkieaaGreatDoorRPPLNx12
import Derived.Test.YtcljnjnlafkieaaGreatDoorRPPLNx11
import Derived.Test.YtcljnjnlafkieaaGreatDoorRPPLNx10
import Derived.Test.YtcljnjnlafkieaaGreatDoorRPPLNx14
import Derived.Test.YtcljnjnlafkieaaGreatDoorRPPLNx6
import Derived.Test.YtcljnjnlafkieaaGreatDoorRPPLNx13
import Derived.Test.YtcljnjnlafkieaaGreatDoorRPPLNx15
import Derived.Lib.SlicesCompact
import Derived.Sort.Walk0
namespace Go.Proofs.YtcljnjnlafkieaaGreatDoorR.CTr
open Go Go.RowKit Go.Proofs.YtcljnjnlafkieaaGreatDoorR.PPLN Go.Proofs.YtcljnjnlafkieaaGreatDoorRW.PrintWords Go.Proofs.YtcljnjnlafkieaaGreatDoorRW.PrintLast
theorem toSs_append : ∀ xs ys : List Tr, toSs (xs ++ ys) = toSs xs ++ toSs ys
  | [], _ => by rw [toSs]; rfl
  | x :: xs, ys => by rw [List.cons_append, toSs, toSs, toSs_append xs ys]; rfl
theorem toSs_len : ∀ xs : List Tr, (toSs xs).length = xs.length
  | [] => by rw [toSs]; rfl
  | x :: xs => by rw [toSs, List.length_cons, toSs_len xs]; rfl
theorem toS_eq (t : Tr) : t.toS = ⟨t.root, toSs t.kids⟩ := by cases t; rw [Tr.toS]; rfl
theorem rdS_at (pre : List Tr) (t : Tr) (ts : List Tr) : rd_T51 (toSs (pre ++ t :: ts)) (pre.length : Int) = ⟨t.root, toSs t.kids⟩ := by
  unfold rd_T51
  rw [Int.toNat_natCast, toSs_append, toSs, List.getD_eq_getElem?_getD, List.getElem?_append_right (by rw [toSs_len]; exact Nat.le_refl _), toSs_len, Nat.sub_self, toS_eq]; rfl
abbrev PR := Int × Int × ByteArray × Int × Int × Int × (List S51)
def resP (t : Tr) : PR := (t.root.f0, t.root.f1, t.root.f2, t.root.f3, t.root.f4.f0, t.root.f4.f1, toSs t.kids)
theorem flat_pos (t : Tr) : 1 ≤ t.flat.length := by rw [flat_root, List.length_cons]; omega
theorem fmB_op (m : S45) (h : fmB m = true) (h6 : m.f0 = 6 ∨ m.f0 = 7) : 1 ≤ m.f3 ∧ m.f3 ≤ 4 := by
  unfold fmB at h
  rw [if_neg (by omega), if_neg (by omega), if_neg (by omega), if_pos h6] at h
  simp only [Bool.and_eq_true, decide_eq_true_iff] at h
  exact ⟨h.2.2.1, h.2.2.2.1⟩
theorem opp_five (a : Int) (h1 : 1 ≤ a) (h4 : a ≤ 4) : opp a = 5 - a := by
  unfold opp
  split
  · omega
  · split
    · omega
    · split <;> omega
mutual
theorem refplain : ∀ (t : Tr) (nt : Bool) (a b : Int) (K : Nat), t.wf fmB a b → 6 * t.flat.length ≤ K → t.flat.length ≤ 40000 →
    tollbookref13_plain.f K t.root.f0 t.root.f1 t.root.f2 t.root.f3 t.root.f4.f0 t.root.f4.f1 (toSs t.kids) nt = some (resP (t.pl nt))
  | .mk n ks, nt, a, b, K, hw, hK, hL => by
    rw [Tr.flat, List.length_cons] at hK hL
    rw [Tr.wf] at hw
    obtain ⟨K, rfl⟩ : ∃ j, K = j + 3 := ⟨K - 3, by omega⟩
    show tollbookref13_plain.f (K + 3) n.f0 n.f1 n.f2 n.f3 n.f4.f0 n.f4.f1 (toSs ks) nt = some (resP ((Tr.mk n ks).pl nt))
    have hj0 : ∀ z, z = decide (n.f0 = 1 ∨ n.f0 = 2) → tollbookref13_plain.j0 (K + 2) nt n.f0 z n.f0 n.f1 n.f2 n.f3 n.f4.f0 n.f4.f1 (toSs ks) n.f0 n.f1 n.f2 n.f3 n.f4.f0 n.f4.f1 = some (resP ((Tr.mk n ks).pl nt)) := by
      intro z hz
      rw [tollbookref13_plain.j0, hz, Tr.pl]
      by_cases c12 : n.f0 = 1 ∨ n.f0 = 2
      · rw [if_pos (decide_eq_true c12), if_neg (show ¬ n.f0 = 3 by omega), if_pos c12]
        have hj1 : tollbookref13_plain.j1 (K + 1) nt (kindOf n.f0 nt) n.f0 n.f1 n.f2 n.f3 n.f4.f0 n.f4.f1 (toSs ks) = some (resP (.mk (groupN (kindOf n.f0 nt) (merge (kindOf n.f0 nt) (pls ks nt)).length) (merge (kindOf n.f0 nt) (pls ks nt)))) := by
          rw [tollbookref13_plain.j1]
          have := refplains n nt (kindOf n.f0 nt) [] ks [] K _ _ hw.2.2.2.2 (by omega) (by rw [List.length_nil]; omega)
          rw [List.nil_append, List.nil_append, toSs] at this
          exact this
        by_cases hn : nt = true
        · rw [if_pos hn, wrap_id (by omega) (by omega), show 3 - n.f0 = kindOf n.f0 nt from by rw [hn]; rfl]; exact hj1
        · rw [if_neg hn]
          rw [show kindOf n.f0 nt = n.f0 from if_neg hn] at hj1 ⊢
          exact hj1
      · rw [if_neg (by rw [decide_eq_false c12]; exact Bool.false_ne_true), if_neg c12]
        by_cases c3 : n.f0 = 3
        · rw [if_pos c3, if_pos c3]
          obtain ⟨t, rfl⟩ := one_kid (ts := ks) (by have := fmB_not n hw.2.1 c3; have := hw.2.2.2.1; omega)
          have hw5 := hw.2.2.2.2
          rw [wfs] at hw5
          rw [flats, flats, List.append_nil] at hK hL
          have h0 : rd_T51 (toSs [t]) 0 = ⟨t.root, toSs t.kids⟩ := rdS_at [] t []
          rw [if_pos (by rw [toSs_len, List.length_singleton]; omega), h0]
          have ih := refplain t (!nt) _ _ (K + 1) hw5.1 (by omega) (by omega)
          rw [ih, Option.bind_some, pls]
          rfl
        · rw [if_neg c3, if_neg c3]
          have hl := fmB_leaf n hw.2.1 c12 c3
          have hks : ks = [] := List.eq_nil_of_length_eq_zero (by have := hl.1; have := hw.2.2.2.1; omega)
          have hj3 : ∀ z, z = decide (n.f0 = 4 ∨ n.f0 = 5) → tollbookref13_plain.j3 (K + 1) nt z n.f0 n.f1 n.f2 n.f3 n.f4.f0 n.f4.f1 = some (resP (leafT n nt)) := by
            intro z hz
            rw [tollbookref13_plain.j3, hz]
            unfold leafT
            by_cases hn : nt = true
            · rw [if_pos hn]
              by_cases c45 : n.f0 = 4 ∨ n.f0 = 5
              · rw [if_pos (decide_eq_true c45), if_pos hn, if_neg (by omega)]
                show _ = some ((3 : Int), (1 : Int), (⟨#[]⟩ : ByteArray), (0 : Int), (0 : Int), (0 : Int), toSs [.mk n []])
                rw [toSs, toSs, Tr.toS, toSs]
              · rw [if_neg (by rw [decide_eq_false c45]; exact Bool.false_ne_true), if_pos hn]
                have h67 : n.f0 = 6 ∨ n.f0 = 7 := by omega
                have ho := fmB_op n hw.2.1 h67
                rw [if_pos hn, if_pos h67, wrap_id (by omega) (by omega), ← opp_five _ ho.1 ho.2]
                show _ = some (n.f0, n.f1, n.f2, opp n.f3, n.f4.f0, n.f4.f1, toSs [])
                rw [toSs]
            · rw [if_neg hn, if_neg hn, if_neg hn]
              show _ = some (n.f0, n.f1, n.f2, n.f3, n.f4.f0, n.f4.f1, toSs [])
              rw [toSs]
              split <;> rfl
          by_cases c4 : n.f0 = 4
          · rw [if_pos c4]; exact hj3 _ (by rw [c4]; rfl)
          · rw [if_neg c4]; exact hj3 _ (by rw [show (n.f0 == 5) = decide (n.f0 = 5) from rfl]; exact decide_eq_decide.2 ⟨Or.inr, fun q => q.resolve_left c4⟩)
    rw [tollbookref13_plain.f]
    by_cases c1 : n.f0 = 1
    · rw [if_pos c1]; exact hj0 _ (by rw [c1]; rfl)
    · rw [if_neg c1]; exact hj0 _ (by rw [show (n.f0 == 2) = decide (n.f0 = 2) from rfl]; exact decide_eq_decide.2 ⟨Or.inr, fun q => q.resolve_left c1⟩)
theorem refplains (n : S45) (nt : Bool) (kind : Int) : ∀ (pre ts acc : List Tr) (K : Nat) (a b : Int), wfs fmB a b ts → 6 * (flats ts).length + 1 ≤ K → pre.length + acc.length + 2 * (flats ts).length ≤ 80000 → 
    tollbookref13_plain.l0 K nt kind (pre.length : Int) n.f0 n.f1 n.f2 n.f3 n.f4.f0 n.f4.f1 (toSs (pre ++ ts)) kind 0 (⟨#[]⟩ : ByteArray) 0 0 0 (toSs acc) = some (resP (.mk (groupN kind (acc ++ merge kind (pls ts nt)).length) (acc ++ merge kind (pls ts nt))))
  | pre, [], acc, K, a, b, hw, hK, hb => by
    obtain ⟨K, rfl⟩ : ∃ j, K = j + 1 := ⟨K - 1, by omega⟩
    rw [tollbookref13_plain.l0, if_neg (by rw [toSs_len, List.append_nil]; omega), toSs_len, pls, merge, List.append_nil]; rfl
  | pre, t :: ts, acc, K, a, b, hw, hK, hb => by
    obtain ⟨K, rfl⟩ : ∃ j, K = j + 1 := ⟨K - 1, by omega⟩
    rw [wfs] at hw
    have hfl : (flats (t :: ts)).length = t.flat.length + (flats ts).length := by rw [flats, List.length_append]
    rw [hfl] at hK hb
    have hpos := flat_pos t
    have hkl := kids_le_flats (t.pl nt).kids
    have hfk := flats_kids_le (t.pl nt)
    have hlen := pl_len t nt
    have ih := refplain t nt _ _ K hw.1 (by omega) (by omega)
    rw [tollbookref13_plain.l0, if_pos (by rw [toSs_len, List.length_append, List.length_cons]; omega), if_pos (by omega), rdS_at, ih, Option.bind_some, pls, merge]
    rw [wrap_add1 _ (by omega)]
    have e1 : ((pre.length + 1 : Nat) : Int) = ((pre ++ [t]).length : Int) := by rw [List.length_append]; rfl
    have e2 : pre ++ t :: ts = (pre ++ [t]) ++ ts := by rw [List.append_assoc]; rfl
    by_cases hc : (t.pl nt).root.f0 = kind
    · rw [if_pos (show (resP (t.pl nt)).1 = kind from hc), if_pos hc, if_pos (show (toSs acc).length + (resP (t.pl nt)).2.2.2.2.2.2.length < 1759218604441 by show (toSs acc).length + (toSs (t.pl nt).kids).length < 1759218604441; rw [toSs_len, toSs_len]; omega), e1, e2, ← List.append_assoc]
      have := refplains n nt kind (pre ++ [t]) ts (acc ++ (t.pl nt).kids) K a b hw.2 (by omega) (by rw [List.length_append, List.length_append, List.length_singleton]; omega)
      rw [toSs_append acc] at this
      exact this
    · rw [if_neg (show ¬ (resP (t.pl nt)).1 = kind from hc), if_neg hc, if_pos (show (toSs acc).length < 1759218604441 by rw [toSs_len]; omega), e1, e2, ← List.append_assoc]
      have := refplains n nt kind (pre ++ [t]) ts (acc ++ [t.pl nt]) K a b hw.2 (by omega) (by rw [List.length_append, List.length_append, List.length_singleton, List.length_singleton]; omega)
      rw [toSs_append acc, show toSs [t.pl nt] = [⟨(t.pl nt).root, toSs (t.pl nt).kids⟩] from by rw [toSs, toSs, toS_eq]] at this
      exact this
end
abbrev BL := List UInt8
theorem ll_lt {a b : BL} (h : a ≤ b) (hne : a ≠ b) : a < b := by
  refine Decidable.byContradiction fun hn => hne ?_
  exact List.le_antisymm h (List.not_lt.1 hn)
theorem comp_inv (zs : List BL) (hs : zs.Pairwise (· ≤ ·)) : ∀ m, m ≤ zs.length → (Lib.compactUpTo zs.toArray m).Pairwise (· < ·) ∧ ∀ x, x ∈ Lib.compactUpTo zs.toArray m ↔ x ∈ zs.take m
  | 0, _ => by
    have : Lib.compactUpTo zs.toArray 0 = [] := rfl
    rw [this]
    exact ⟨List.Pairwise.nil, fun x => by simp⟩
  | m + 1, h => by
    obtain ⟨h1, h2⟩ := comp_inv zs hs m (by omega)
    have hm : m < zs.length := by omega
    have hg : (zs.toArray)[m]! = zs[m] := by rw [getElem!_pos zs.toArray m (by simpa using hm)]; simp
    have ht : zs.take (m + 1) = zs.take m ++ [zs[m]] := by rw [List.take_append_getElem hm]
    have hle : ∀ x ∈ zs.take m, x ≤ zs[m] := fun x hx => by
      have := hs
      rw [← List.take_append_drop m zs] at this
      have := (List.pairwise_append.1 this).2.2 x hx zs[m] (by rw [List.drop_eq_getElem_cons hm]; exact List.mem_cons_self)
      exact this
    rw [Lib.compactUpTo_succ]
    by_cases hk : Lib.keeps zs.toArray m = true
    · rw [if_pos hk, hg]
      refine ⟨?_, fun x => ?_⟩
      · refine List.pairwise_append.2 ⟨h1, List.pairwise_singleton _ _, fun a ha b hb => ?_⟩
        obtain rfl := List.mem_singleton.1 hb
        have ha' := (h2 a).1 ha
        by_cases hm0 : m = 0
        · subst hm0; simp at ha'
        · have hm1 : m - 1 < zs.length := by omega
          have hg1 : (zs.toArray)[m - 1]! = zs[m - 1] := by rw [getElem!_pos zs.toArray (m - 1) (by simpa using hm1)]; simp
          have hne : zs[m] ≠ zs[m - 1] := by
            have := hk
            unfold Lib.keeps at this
            rw [hg, hg1] at this
            rcases of_decide_eq_true this with h | h
            · exact absurd h hm0
            · exact h
          have hal : a ≤ zs[m - 1] := by
            have e : zs.take m = zs.take (m - 1) ++ [zs[m - 1]] := by rw [List.take_append_getElem hm1]; congr 1; omega
            rw [e] at ha'
            rcases List.mem_append.1 ha' with h | h
            · have := hs
              rw [← List.take_append_drop (m - 1) zs] at this
              exact (List.pairwise_append.1 this).2.2 a h zs[m - 1] (by rw [List.drop_eq_getElem_cons hm1]; exact List.mem_cons_self)
            · rw [List.mem_singleton.1 h]; exact List.le_refl _
          refine ll_lt (hle a ha') fun e => ?_
          subst e
          exact hne (List.le_antisymm hal (hle _ (by
            have e : zs.take m = zs.take (m - 1) ++ [zs[m - 1]] := by rw [List.take_append_getElem hm1]; congr 1; omega
            rw [e]; exact List.mem_append_right _ (List.mem_singleton.2 rfl))))
      · rw [ht, List.mem_append, List.mem_append, h2]
    · rw [if_neg hk, List.append_nil]
      refine ⟨h1, fun x => ?_⟩
      rw [h2, ht, List.mem_append]
      refine ⟨Or.inl, fun q => q.elim id fun q => ?_⟩
      have hk2 : ¬ (m = 0 ∨ zs.toArray[m]! ≠ zs.toArray[m - 1]!) := fun q => hk (decide_eq_true q)
      have hm0 : m ≠ 0 := fun e => hk2 (Or.inl e)
      have hm1 : m - 1 < zs.length := by omega
      have hg1 : (zs.toArray)[m - 1]! = zs[m - 1] := by rw [getElem!_pos zs.toArray (m - 1) (by simpa using hm1)]; simp
      have he : zs[m] = zs[m - 1] := by
        rw [← hg, ← hg1]
        exact Decidable.byContradiction fun e => hk2 (Or.inr e)
      have e : zs.take m = zs.take (m - 1) ++ [zs[m - 1]] := by rw [List.take_append_getElem hm1]; congr 1; omega
      rw [List.mem_singleton.1 q, he, e]
      exact List.mem_append_right _ (List.mem_singleton.2 rfl)
theorem rising_uniq : ∀ (xs ys : List BL), xs.Pairwise (· < ·) → ys.Pairwise (· < ·) → (∀ x, x ∈ xs ↔ x ∈ ys) → xs = ys
  | [], [], _, _, _ => rfl
  | [], y :: ys, _, _, h => by have := (h y).2 List.mem_cons_self; cases this
  | x :: xs, [], _, _, h => by have := (h x).1 List.mem_cons_self; cases this
  | x :: xs, y :: ys, hx, hy, h => by
    obtain ⟨hx1, hx2⟩ := List.pairwise_cons.1 hx
    obtain ⟨hy1, hy2⟩ := List.pairwise_cons.1 hy
    have e : x = y := by
      rcases List.mem_cons.1 ((h x).1 List.mem_cons_self) with e | e
      · exact e
      · rcases List.mem_cons.1 ((h y).2 List.mem_cons_self) with e2 | e2
        · exact e2.symm
        · exact absurd (List.lt_trans (hx1 y e2) (hy1 x e)) (List.lt_irrefl _)
    subst e
    have : xs = ys := rising_uniq xs ys hx2 hy2 fun z => by
      constructor
      · intro hz
        rcases List.mem_cons.1 ((h z).1 (List.mem_cons_of_mem _ hz)) with e | e
        · subst e; exact absurd (hx1 z hz) (List.lt_irrefl _)
        · exact e
      · intro hz
        rcases List.mem_cons.1 ((h z).2 (List.mem_cons_of_mem _ hz)) with e | e
        · subst e; exact absurd (hy1 z hz) (List.lt_irrefl _)
        · exact e
    rw [this]
theorem sort_le (l : List BL) : (l.mergeSort fun x y => decide (x ≤ y)).Pairwise (· ≤ ·) := by
  have := List.pairwise_mergeSort (le := fun (x y : BL) => decide (x ≤ y)) (fun a b c h1 h2 => decide_eq_true (List.le_trans (of_decide_eq_true h1) (of_decide_eq_true h2))) (fun a b => by
    rw [Bool.or_eq_true, decide_eq_true_iff, decide_eq_true_iff]; exact List.le_total a b) l
  exact this.imp fun h => of_decide_eq_true h
theorem comp_sort (l : List BL) : (Lib.compact (l.mergeSort fun x y => decide (x ≤ y))).Pairwise (· < ·) ∧ ∀ x, x ∈ Lib.compact (l.mergeSort fun x y => decide (x ≤ y)) ↔ x ∈ l := by
  obtain ⟨h1, h2⟩ := comp_inv (l.mergeSort fun x y => decide (x ≤ y)) (sort_le l) _ (Nat.le_refl _)
  refine ⟨h1, fun x => ?_⟩
  unfold Lib.compact
  rw [h2, List.take_length, List.mem_mergeSort]
def insL (s : BL) : List BL → List BL
  | [] => [s]
  | x :: xs => if s < x then s :: x :: xs else x :: insL s xs
theorem insL_mem (s x : BL) : ∀ xs, x ∈ insL s xs ↔ x = s ∨ x ∈ xs
  | [] => by simp [insL]
  | y :: ys => by
    rw [insL]
    split
    · simp
    · rw [List.mem_cons, insL_mem s x ys, List.mem_cons]
      constructor
      · rintro (h | h | h)
        · exact Or.inr (Or.inl h)
        · exact Or.inl h
        · exact Or.inr (Or.inr h)
      · rintro (h | h | h)
        · exact Or.inr (Or.inl h)
        · exact Or.inl h
        · exact Or.inr (Or.inr h)
theorem insL_rise (s : BL) : ∀ xs : List BL, xs.Pairwise (· < ·) → s ∉ xs → (insL s xs).Pairwise (· < ·)
  | [], _, _ => List.pairwise_singleton _ _
  | x :: xs, h, hn => by
    obtain ⟨h1, h2⟩ := List.pairwise_cons.1 h
    rw [insL]
    split
    · rename_i hlt
      refine List.pairwise_cons.2 ⟨fun z hz => ?_, h⟩
      rcases List.mem_cons.1 hz with rfl | hz
      · exact hlt
      · exact List.lt_trans hlt (h1 z hz)
    · rename_i hlt
      refine List.pairwise_cons.2 ⟨fun z hz => ?_, insL_rise s xs h2 fun q => hn (List.mem_cons_of_mem _ q)⟩
      rcases (insL_mem s z xs).1 hz with rfl | hz
      · exact ll_lt (List.not_lt.1 hlt) fun e => hn (by rw [e]; exact List.mem_cons_self)
      · exact h1 z hz
def Rise (x ns : List ByteArray) : Prop := (rawT x).Pairwise (· < ·) ∧ ∀ z, z ∈ rawT x ↔ z ∈ rawT ns
theorem raw_unraw (l : List BL) : rawT (unrawT l) = l := by
  unfold rawT unrawT; rw [List.map_map]; exact List.map_id'' (fun _ => rfl) l
theorem unraw_raw (l : List ByteArray) : unrawT (rawT l) = l := by
  unfold rawT unrawT; rw [List.map_map]; exact List.map_id'' (fun _ => rfl) l
theorem Rise.uniq {x y ns : List ByteArray} (h : Rise x ns) (h' : Rise y ns) : x = y := by
  have := rising_uniq (rawT x) (rawT y) h.1 h'.1 fun z => (h.2 z).trans (h'.2 z).symm
  rw [← unraw_raw x, this, unraw_raw]
theorem raw_len (x : List ByteArray) : (rawT x).length = x.length := by unfold rawT; rw [List.length_map]
theorem raw_append (x y : List ByteArray) : rawT (x ++ y) = rawT x ++ rawT y := by unfold rawT; rw [List.map_append]
def insB (s : ByteArray) : List ByteArray → List ByteArray
  | [] => [s]
  | x :: xs => if Op.bytesLess s.toList x.toList = true then s :: x :: xs else x :: insB s xs
theorem raw_ins (s : ByteArray) : ∀ xs, rawT (insB s xs) = insL (L s) (rawT xs)
  | [] => rfl
  | x :: xs => by
    rw [insB, show rawT (x :: xs) = L x :: rawT xs from rfl, insL, bytesLess_eq, Lib.toList_data, Lib.toList_data]
    by_cases h : s.data.toList < x.data.toList
    · rw [if_pos (decide_eq_true h), if_pos (show L s < L x from h)]; rfl
    · rw [if_neg (by rw [decide_eq_false h]; exact Bool.false_ne_true), if_neg (show ¬ L s < L x from h), ← raw_ins s xs]; rfl
theorem among_loop (xs : List ByteArray) (s : ByteArray) (hx : xs.length ≤ 1000) : ∀ (m i k : Nat), i + m = xs.length → tollbookref13_among.l0 (k + m + 1) xs s (i : Int) = some (decide (L s ∈ rawT (xs.drop i)))
  | 0, i, k, hi => by
    rw [tollbookref13_among.l0, if_neg (by omega), List.drop_of_length_le (by omega)]; rfl
  | m + 1, i, k, hi => by
    have hlt : i < xs.length := by omega
    have hr := rd_drop xs i hlt
    rw [show k + (m + 1) + 1 = (k + m + 1) + 1 from by omega, tollbookref13_among.l0, if_pos (by omega), if_pos (by omega), wrap_add1 i (by omega), among_loop xs s hx m (i + 1) k (by omega), hr]
    rw [show rawT (rdOf ByteArray.empty xs (i : Int) :: xs.drop (i + 1)) = L (rdOf ByteArray.empty xs (i : Int)) :: rawT (xs.drop (i + 1)) from rfl, Lib.toList_data, Lib.toList_data]
    by_cases h : (rdOf ByteArray.empty xs (i : Int)).data.toList = s.data.toList
    · rw [if_pos h]; exact congrArg some (decide_eq_true (List.mem_cons.2 (Or.inl h.symm))).symm
    · rw [if_neg h]; exact congrArg some (decide_eq_decide.2 ⟨List.mem_cons_of_mem _, fun q => (List.mem_cons.1 q).resolve_left fun e => h e.symm⟩)
theorem among_some (xs : List ByteArray) (s : ByteArray) (hx : xs.length ≤ 1000) (k : Nat) (hk : xs.length + 1 ≤ k) : tollbookref13_among.f k xs s = some (decide (L s ∈ rawT xs)) := by
  obtain ⟨k, rfl⟩ : ∃ j, k = j + xs.length + 1 := ⟨k - xs.length - 1, by omega⟩
  exact among_loop xs s hx xs.length 0 k (by omega)
theorem put_loop (xs : List ByteArray) (s : ByteArray) (hx : xs.length ≤ 1000) : ∀ (m i k : Nat) (acc : List ByteArray), i + m = xs.length → acc.length ≤ i + 1 →
    tollbookref13_put.l0 (k + m + 1) xs s acc true (i : Int) = some (acc ++ xs.drop i) ∧ (acc.length ≤ i → tollbookref13_put.l0 (k + m + 1) xs s acc false (i : Int) = some (acc ++ insB s (xs.drop i)))
  | 0, i, k, acc, hi, ha => by
    refine ⟨?_, fun ha => ?_⟩
    · rw [tollbookref13_put.l0, if_neg (by omega), if_pos rfl, List.drop_of_length_le (by omega), List.append_nil]
    · rw [tollbookref13_put.l0, if_neg (by omega), if_neg Bool.false_ne_true, if_pos (by omega), List.drop_of_length_le (by omega)]; rfl
  | m + 1, i, k, acc, hi, ha => by
    have hlt : i < xs.length := by omega
    have hr := rd_drop xs i hlt
    obtain ⟨y, hy⟩ : ∃ y, rdOf ByteArray.empty xs (i : Int) = y := ⟨_, rfl⟩
    rw [hy] at hr
    rw [show k + (m + 1) + 1 = (k + m + 1) + 1 from by omega]
    refine ⟨?_, fun ha => ?_⟩
    · have := (put_loop xs s hx m (i + 1) k (acc ++ [y]) (by omega) (by rw [List.length_append, List.length_singleton]; omega)).1
      rw [tollbookref13_put.l0, if_pos (by omega), if_pos rfl, if_pos (by omega), if_pos (by omega), wrap_add1 i (by omega), hy, this, hr, List.append_assoc]; rfl
    · rw [tollbookref13_put.l0, if_pos (by omega), if_neg Bool.false_ne_true, if_pos (by omega), hy, wrap_add1 i (by omega), hr, insB]
      by_cases h : Op.bytesLess s.toList y.toList = true
      · rw [if_pos h, if_pos h, if_pos (by omega), Option.bind_some, if_pos (by rw [List.length_append, List.length_singleton]; omega)]
        have := (put_loop xs s hx m (i + 1) k ((acc ++ [s]) ++ [y]) (by omega) (by simp only [List.length_append, List.length_singleton]; omega)).1
        rw [this, List.append_assoc, List.append_assoc]; rfl
      · rw [if_neg h, if_neg h, if_pos (by omega)]
        have := (put_loop xs s hx m (i + 1) k (acc ++ [y]) (by omega) (by rw [List.length_append, List.length_singleton]; omega)).2 (by rw [List.length_append, List.length_singleton]; omega)
        rw [this, List.append_assoc]; rfl
theorem put_some (xs ns : List ByteArray) (s : ByteArray) (hx : xs.length ≤ 1000) (k : Nat) (hk : xs.length + 1 ≤ k) (hr : Rise xs ns) : ∃ r, tollbookref13_put.f k xs s = some r ∧ Rise r (ns ++ [s]) ∧ r.length ≤ xs.length + 1 := by
  rw [tollbookref13_put.f, among_some xs s hx k hk, Option.bind_some]
  have hz : ∀ z, z ∈ rawT (ns ++ [s]) ↔ z = L s ∨ z ∈ rawT xs := fun z => by
    rw [raw_append, List.mem_append, hr.2 z, Or.comm]
    exact or_congr List.mem_singleton Iff.rfl
  by_cases h : L s ∈ rawT xs
  · rw [if_pos (decide_eq_true h)]
    refine ⟨xs, rfl, ⟨hr.1, fun z => ?_⟩, by omega⟩
    rw [hz z]
    exact ⟨Or.inr, fun q => q.elim (fun e => e ▸ h) id⟩
  · rw [if_neg (by rw [decide_eq_false h]; exact Bool.false_ne_true)]
    obtain ⟨k, rfl⟩ : ∃ j, k = j + xs.length + 1 := ⟨k - xs.length - 1, by omega⟩
    have := (put_loop xs s hx xs.length 0 k [] (by omega) (by rw [List.length_nil]; omega)).2 (Nat.le_refl _)
    refine ⟨_, this, ⟨?_, fun z => ?_⟩, ?_⟩
    · rw [List.nil_append, List.drop_zero, raw_ins]; exact insL_rise _ _ hr.1 h
    · rw [List.nil_append, List.drop_zero, raw_ins, insL_mem, hz z]
    · rw [List.nil_append, List.drop_zero, ← raw_len, raw_ins]
      have hl : ∀ ys : List BL, (insL (L s) ys).length = ys.length + 1 := fun ys => by
        induction ys with
        | nil => rfl
        | cons y ys ih =>
          rw [insL]
          split
          · rfl
          · rw [List.length_cons, ih, List.length_cons]
      rw [hl, raw_len]; exact Nat.le_refl _
def namesK (kd : Int) (l : List S45) : List ByteArray := (l.filter fun n => decide (n.f0 = kd)).map fun n => n.f2
theorem names_snoc (kd : Int) (l : List S45) (n : S45) : namesK kd (l ++ [n]) = if n.f0 = kd then namesK kd l ++ [n.f2] else namesK kd l := by
  unfold namesK
  rw [List.filter_append, List.map_append]
  by_cases h : n.f0 = kd
  · rw [if_pos h]; simp [List.filter, h]
  · rw [if_neg h]; simp [List.filter, h]
theorem names_len (kd : Int) (l : List S45) : (namesK kd l).length ≤ l.length := by
  unfold namesK; rw [List.length_map]; exact List.length_filter_le _ _
theorem take_snocN (l : List S45) (i : Nat) (h : i < l.length) : l.take (i + 1) = l.take i ++ [rd_T45 l (i : Int)] := by
  rw [← List.take_append_getElem h]
  unfold rd_T45
  rw [Int.toNat_natCast, List.getD_eq_getElem?_getD, List.getElem?_eq_getElem h]; rfl
theorem refnames_loop (l : List S45) (hl : l.length ≤ 64) : ∀ (m i k : Nat) (x y : List ByteArray), i + m = l.length → Rise x (namesK 4 (l.take i)) → Rise y (namesK 5 (l.take i)) → x.length ≤ i → y.length ≤ i →
    ∃ r q, tollbookref13_Names.l0 (k + 100 + m + 1) l x y (i : Int) = some (r, q, 0) ∧ Rise r (namesK 4 l) ∧ Rise q (namesK 5 l) ∧ r.length ≤ 64 ∧ q.length ≤ 64
  | 0, i, k, x, y, hi, hx, hy, hlx, hly => by
    rw [List.take_of_length_le (by omega)] at hx hy
    exact ⟨x, y, by rw [tollbookref13_Names.l0, if_neg (by omega)], hx, hy, by omega, by omega⟩
  | m + 1, i, k, x, y, hi, hx, hy, hlx, hly => by
    have ht := take_snocN l i (by omega)
    obtain ⟨n, hn⟩ : ∃ n, rd_T45 l (i : Int) = n := ⟨_, rfl⟩
    rw [hn] at ht
    have h4 := names_snoc 4 (l.take i) n
    have h5 := names_snoc 5 (l.take i) n
    rw [← ht] at h4 h5
    rw [show k + 100 + (m + 1) + 1 = (k + 100 + m + 1) + 1 from by omega, tollbookref13_Names.l0, if_pos (by omega), if_pos (by omega), wrap_add1 i (by omega), hn]
    obtain ⟨p, e1, e2, e3⟩ := put_some x _ n.f2 (by omega) (k + 100 + m + 1) (by omega) hx
    obtain ⟨q, g1, g2, g3⟩ := put_some y _ n.f2 (by omega) (k + 100 + m + 1) (by omega) hy
    by_cases c4 : n.f0 = 4
    · rw [if_pos c4] at h4
      rw [if_neg (by omega)] at h5
      rw [if_pos c4, e1, Option.bind_some, if_neg (by omega)]
      exact refnames_loop l hl m (i + 1) k p y (by omega) (by rw [h4]; exact e2) (by rw [h5]; exact hy) (by omega) (by omega)
    · rw [if_neg c4] at h4
      rw [if_neg c4]
      by_cases c5 : n.f0 = 5
      · rw [if_pos c5] at h5
        rw [if_pos c5, g1, Option.bind_some]
        exact refnames_loop l hl m (i + 1) k x q (by omega) (by rw [h4]; exact hx) (by rw [h5]; exact g2) (by omega) (by omega)
      · rw [if_neg c5] at h5
        rw [if_neg c5]
        exact refnames_loop l hl m (i + 1) k x y (by omega) (by rw [h4]; exact hx) (by rw [h5]; exact hy) (by omega) (by omega)
def tidy (l : List ByteArray) : List ByteArray := unrawT (Lib.compact ((rawT l).mergeSort fun x y => decide (x ≤ y)))
theorem tidy_rise (l : List ByteArray) : Rise (tidy l) l := by
  obtain ⟨h1, h2⟩ := comp_sort (rawT l)
  unfold Rise tidy
  rw [raw_unraw]
  exact ⟨h1, h2⟩
theorem names_loop (l : List S45) (hl : l.length ≤ 64) : ∀ (m i k : Nat), i + m = l.length →
    traits_Names.l0 (k + m + 1) (namesK 4 (l.take i)) (namesK 5 (l.take i)) l (l.length : Int) (i : Int) = some (tidy (namesK 4 l), tidy (namesK 5 l), 0)
  | 0, i, k, hi => by
    rw [List.take_of_length_le (by omega), traits_Names.l0, if_neg (by omega)]
    have h4 := names_len 4 l
    have h5 := names_len 5 l
    rw [slices_Sort_string_string.f, if_pos (by omega), Option.bind_some, slices_Sort_string_string.f, if_pos (by omega), Option.bind_some, slices_Compact_string_string.f, Option.bind_some, slices_Compact_string_string.f, Option.bind_some, raw_unraw, raw_unraw]; rfl
  | m + 1, i, k, hi => by
    have ht := take_snocN l i (by omega)
    have ih := names_loop l hl m (i + 1) k (by omega)
    obtain ⟨n, hn⟩ : ∃ n, rd_T45 l (i : Int) = n := ⟨_, rfl⟩
    rw [hn] at ht
    have h4 := names_len 4 (l.take i)
    have h5 := names_len 5 (l.take i)
    rw [List.length_take] at h4 h5
    rw [ht, names_snoc, names_snoc] at ih
    rw [show k + (m + 1) + 1 = (k + m + 1) + 1 from by omega, traits_Names.l0, if_pos (by omega), if_pos (by omega), if_pos (by omega), wrap_add1 i (by omega), hn]
    by_cases c4 : n.f0 = 4
    · rw [if_pos c4, if_neg (show ¬ n.f0 = 5 by omega)] at ih
      rw [if_pos c4, if_pos (by omega)]; exact ih
    · rw [if_neg c4] at ih
      rw [if_neg c4]
      by_cases c5 : n.f0 = 5
      · rw [if_pos c5] at ih
        rw [if_pos c5, if_pos (by omega)]; exact ih
      · rw [if_neg c5] at ih
        rw [if_neg c5]; exact ih
mutual
theorem reflist : ∀ (t : Tr) (K : Nat), 6 * t.flat.length ≤ K → t.flat.length ≤ 40000 →
    tollbookref13_List.f K t.root.f0 t.root.f1 t.root.f2 t.root.f3 t.root.f4.f0 t.root.f4.f1 (toSs t.kids) = some t.flat
  | .mk n ks, K, hK, hL => by
    rw [Tr.flat, List.length_cons] at hK hL
    obtain ⟨K, rfl⟩ : ∃ j, K = j + 1 := ⟨K - 1, by omega⟩
    show tollbookref13_List.f (K + 1) n.f0 n.f1 n.f2 n.f3 n.f4.f0 n.f4.f1 (toSs ks) = some (Tr.mk n ks).flat
    have := reflists n [] ks [n] K (by omega) (by rw [List.length_nil, List.length_singleton]; omega)
    rw [List.nil_append] at this
    rw [tollbookref13_List.f, Tr.flat]
    exact this
theorem reflists (n : S45) : ∀ (pre ts : List Tr) (acc : List S45) (K : Nat), 6 * (flats ts).length + 1 ≤ K → pre.length + acc.length + 2 * (flats ts).length ≤ 80000 →
    tollbookref13_List.l0 K acc (pre.length : Int) n.f0 n.f1 n.f2 n.f3 n.f4.f0 n.f4.f1 (toSs (pre ++ ts)) = some (acc ++ flats ts)
  | pre, [], acc, K, hK, hb => by
    obtain ⟨K, rfl⟩ : ∃ j, K = j + 1 := ⟨K - 1, by omega⟩
    rw [tollbookref13_List.l0, if_neg (by rw [toSs_len, List.append_nil]; omega), flats, List.append_nil]
  | pre, t :: ts, acc, K, hK, hb => by
    obtain ⟨K, rfl⟩ : ∃ j, K = j + 1 := ⟨K - 1, by omega⟩
    have hfl : (flats (t :: ts)).length = t.flat.length + (flats ts).length := by rw [flats, List.length_append]
    rw [hfl] at hK hb
    have hpos := flat_pos t
    have ih := reflist t K (by omega) (by omega)
    rw [tollbookref13_List.l0, if_pos (by rw [toSs_len, List.length_append, List.length_cons]; omega), if_pos (by omega), rdS_at, ih, Option.bind_some, if_pos (by omega), wrap_add1 _ (by omega)]
    have e1 : ((pre.length + 1 : Nat) : Int) = ((pre ++ [t]).length : Int) := by rw [List.length_append]; rfl
    have e2 : pre ++ t :: ts = (pre ++ [t]) ++ ts := by rw [List.append_assoc]; rfl
    rw [e1, e2, flats, ← List.append_assoc]
    exact reflists n (pre ++ [t]) ts (acc ++ t.flat) K (by omega) (by rw [List.length_append, List.length_append, List.length_singleton]; omega)
end
theorem nodeNe (m : S45) : (!(m.f0 == m.f0) || (!(m.f1 == m.f1) || (!(m.f2.toList == m.f2.toList) || (!(m.f3 == m.f3) || (!(m.f4.f0 == m.f4.f0) || !(m.f4.f1 == m.f4.f1)))))) = false := by simp
theorem sameN_loop (xs : List S45) (hx : xs.length ≤ 1000000) : ∀ (m i k : Nat), i + m = xs.length → tollbookkit_SameNodes.l0 (k + m + 1) xs xs (i : Int) = some true
  | 0, i, k, hi => by rw [tollbookkit_SameNodes.l0, if_neg (by omega)]
  | m + 1, i, k, hi => by
    rw [show k + (m + 1) + 1 = (k + m + 1) + 1 from by omega, tollbookkit_SameNodes.l0, if_pos (by omega), if_pos (by omega), if_pos (by omega), if_neg (by rw [nodeNe]; exact Bool.false_ne_true), wrap_add1 i (by omega)]
    exact sameN_loop xs hx m (i + 1) k (by omega)
theorem sameN_some (xs : List S45) (hx : xs.length ≤ 1000000) (k : Nat) (hk : xs.length + 1 ≤ k) : tollbookkit_SameNodes.f k xs xs = some true := by
  obtain ⟨k, rfl⟩ : ∃ j, k = j + xs.length + 1 := ⟨k - xs.length - 1, by omega⟩
  rw [tollbookkit_SameNodes.f, if_pos rfl]
  exact sameN_loop xs hx xs.length 0 k (by omega)
theorem check_cases (l : List S45) (k : Nat) (hk : 6000 ≤ k) (hne : l.length ≠ 0) :
    (∃ t, Tr.wf fmB 1 0 t ∧ l = t.flat ∧ l.length ≤ 64 ∧ traits_Check.f k l = some 0 ∧ tollbookref13_Of.f k l = some (t.root.f0, t.root.f1, t.root.f2, t.root.f3, t.root.f4.f0, t.root.f4.f1, toSs t.kids, true)) ∨
    (traits_Check.f k l = some 131 ∧ ∃ a b c d e f g, tollbookref13_Of.f k l = some (a, b, c, d, e, f, g, false)) := by
  unfold traits_Check.f tollbookref13_Of.f
  rw [if_neg hne]
  by_cases h1 : 64 < l.length
  · rw [if_pos h1, if_pos (show (l.length : Int) > 64 by omega)]; exact Or.inr ⟨rfl, _, _, _, _, _, _, _, rfl⟩
  · rw [if_neg h1, if_neg (show ¬ (l.length : Int) > 64 by omega)]
    have g := grown_spec l (by omega) 16 1 (by omega) (by omega) (by omega) 0 (Nat.zero_le _) k (by omega)
    rw [show ((0 : Nat) : Int) = 0 from rfl] at g
    rcases tree_spec k fmB (formed_some k (by omega)) fmB_kids l 20 1 0 0 (Nat.zero_le _) (by omega) (by omega) with ⟨t, j, e, hw, hd, _, hj⟩ | ⟨j, e, hj, hno⟩
    · rcases g with ⟨m, ts, j2, e2, hw2, hd2, _, hj2⟩ | ⟨e2, hno2⟩
      · have hd0 := hd
        rw [hd] at hd2
        obtain ⟨ht, hr⟩ := flat_uniq fmB _ _ _ _ _ _ _ _ hw hw2 hd2
        have hj12 : l.length - j = l.length - j2 := by
          have := congrArg List.length hr
          rwa [List.length_drop, List.length_drop] at this
        obtain rfl : j = j2 := by omega
        subst ht
        rw [e, e2, Option.bind_some]
        by_cases hjl : j = l.length
        · refine Or.inl ⟨_, hw, ?_, by omega, ?_, ?_⟩
          · rw [List.drop_zero, hjl, List.drop_length, List.append_nil] at hd0; exact hd0
          · show some (if true = true ∧ j = l.length then (0 : Int) else 131) = some 0
            rw [if_pos ⟨rfl, hjl⟩]
          · show some (m.f0, m.f1, m.f2, m.f3, m.f4.f0, m.f4.f1, toSs ts, ((j : Int) == (l.length : Int))) = some (m.f0, m.f1, m.f2, m.f3, m.f4.f0, m.f4.f1, toSs ts, true)
            rw [beq_iff_eq.2 (show (j : Int) = (l.length : Int) by omega)]
        · refine Or.inr ⟨?_, m.f0, m.f1, m.f2, m.f3, m.f4.f0, m.f4.f1, toSs ts, ?_⟩
          · show some (if true = true ∧ j = l.length then (0 : Int) else 131) = some 131
            rw [if_neg (fun q => hjl q.2)]
          · show some (m.f0, m.f1, m.f2, m.f3, m.f4.f0, m.f4.f1, toSs ts, ((j : Int) == (l.length : Int))) = some (m.f0, m.f1, m.f2, m.f3, m.f4.f0, m.f4.f1, toSs ts, false)
            rw [beq_eq_false_iff_ne.2 (show (j : Int) ≠ (l.length : Int) by omega)]
      · exact absurd ⟨t, _, hw, hd⟩ hno2
    · rcases g with ⟨m, ts, j2, e2, hw2, hd2, _, hj2⟩ | ⟨e2, hno2⟩
      · exact absurd ⟨_, _, hw2, hd2⟩ hno
      · rw [e, e2, Option.bind_some]
        refine Or.inr ⟨?_, 0, 0, ⟨#[]⟩, 0, 0, 0, [], ?_⟩
        · show some (if false = true ∧ j = l.length then (0 : Int) else 131) = some 131
          rw [if_neg (fun q => Bool.false_ne_true q.1)]
        · show some ((0 : Int), (0 : Int), (⟨#[]⟩ : ByteArray), (0 : Int), (0 : Int), (0 : Int), ([] : List S51), ((-1 : Int) == (l.length : Int))) = _
          rw [beq_eq_false_iff_ne.2 (show (-1 : Int) ≠ (l.length : Int) by omega)]
theorem check_nil (l : List S45) (k : Nat) (h : l.length = 0) : traits_Check.f k l = some 0 := by
  rw [traits_Check.f, if_pos h]
theorem plains_some (l : List S45) (k : Nat) (hk : 6000 ≤ k) : ∃ out e, traits_Plain.f k l = some (out, e) ∧ tollbookref13_Plain.f k l = some (out, e) ∧ out.length ≤ 64 := by
  unfold traits_Plain.f tollbookref13_Plain.f
  by_cases h0 : l.length = 0
  · rw [check_nil l k h0, Option.bind_some, if_pos rfl, if_pos h0, if_pos (show (l.length : Int) = 0 by omega)]
    exact ⟨[], 0, rfl, rfl, Nat.zero_le _⟩
  · rw [if_neg (show ¬ (l.length : Int) = 0 by omega)]
    rcases check_cases l k hk h0 with ⟨t, hw, hl, h64, e1, e2⟩ | ⟨e1, a, b, c, d, e, f, g, e2⟩
    · have hp := plainF_spec l h64 20 t 1 0 false 0 [] hw (by omega) (by rw [List.drop_zero, List.append_nil, hl])
      have hlen := pl_len t false
      rw [← hl] at hlen
      have r1 := refplain t false _ _ k hw (by rw [← hl]; omega) (by rw [← hl]; omega)
      have r2 := reflist (t.pl false) k (by omega) (by omega)
      rw [e1, e2, Option.bind_some, if_pos rfl, if_neg h0, hp, Option.bind_some, Option.bind_some]
      simp only []
      rw [if_pos trivial, r1, Option.bind_some]
      simp only [resP]
      rw [r2, Option.bind_some]
      by_cases h : 64 < (t.pl false).flat.length
      · rw [if_pos h, if_pos (show ((t.pl false).flat.length : Int) > 64 by omega)]; exact ⟨[], 3, rfl, rfl, Nat.zero_le _⟩
      · rw [if_neg h, if_neg (show ¬ ((t.pl false).flat.length : Int) > 64 by omega)]; exact ⟨_, 0, rfl, rfl, by omega⟩
    · rw [e1, e2, Option.bind_some, if_neg (by decide), Option.bind_some]
      exact ⟨[], 131, rfl, rfl, Nat.zero_le _⟩
theorem names_some (l : List S45) (k : Nat) (hk : 6000 ≤ k) : ∃ x y e, traits_Names.f k l = some (x, y, e) ∧ tollbookref13_Names.f k l = some (x, y, e) ∧ x.length ≤ 64 ∧ y.length ≤ 64 := by
  obtain ⟨c, h1, h2⟩ := check_some l k hk
  unfold traits_Names.f tollbookref13_Names.f
  rw [h1, h2, Option.bind_some, Option.bind_some]
  by_cases hc : c = 0
  · rw [if_pos hc, if_pos hc]
    have hl : l.length ≤ 64 := by
      rw [hc, traits_Check.f] at h1
      by_cases h0 : l.length = 0
      · omega
      · rw [if_neg h0] at h1
        by_cases h3 : 64 < l.length
        · rw [if_pos h3] at h1; cases h1
        · omega
    obtain ⟨k, rfl⟩ : ∃ j, k = j + 100 + l.length + 1 := ⟨k - 100 - l.length - 1, by omega⟩
    have e0 : Rise ([] : List ByteArray) (namesK 4 (l.take 0)) := ⟨List.Pairwise.nil, fun z => Iff.rfl⟩
    have f0 : Rise ([] : List ByteArray) (namesK 5 (l.take 0)) := ⟨List.Pairwise.nil, fun z => Iff.rfl⟩
    obtain ⟨r, q, g1, g2, g3, g4, g5⟩ := refnames_loop l hl l.length 0 k [] [] (by omega) e0 f0 (Nat.le_refl _) (Nat.le_refl _)
    have p1 := names_loop l hl l.length 0 (k + 100) (by omega)
    have hr : tidy (namesK 4 l) = r := (tidy_rise _).uniq g2
    have hq : tidy (namesK 5 l) = q := (tidy_rise _).uniq g3
    rw [hr, hq] at p1
    exact ⟨r, q, 0, p1, g1, g4, g5⟩
  · rw [if_neg hc, if_neg hc]
    have hc131 : c = 131 := by
      rw [traits_Check.f] at h1
      by_cases h0 : l.length = 0
      · rw [if_pos h0] at h1; exact absurd (Option.some.inj h1).symm hc
      · rw [if_neg h0] at h1
        by_cases h3 : 64 < l.length
        · rw [if_pos h3] at h1; exact (Option.some.inj h1).symm
        · rw [if_neg h3] at h1
          obtain ⟨x, _, hx⟩ := Option.map_eq_some_iff.mp h1
          split at hx
          · exact absurd hx.symm hc
          · exact hx.symm
    rw [hc131]
    exact ⟨[], [], 131, rfl, rfl, Nat.zero_le _, Nat.zero_le _⟩
end Go.Proofs.YtcljnjnlafkieaaGreatDoorR.CTr
