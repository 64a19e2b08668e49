/- Conditions made plain, as trees: the program's walk over the nodes answers the tree's nodes. -/
import Derived.Test.YtcljnjnlafkieaaGreatDoorRCTrChecks
import Derived.Test.YtcljnjnlafkieaaGreatDoorRPPLNx6
import Derived.Test.YtcljnjnlafkieaaGreatDoorRPPLNx5
namespace Go.Proofs.YtcljnjnlafkieaaGreatDoorR.CTr
open Go Go.RowKit Go.Proofs.YtcljnjnlafkieaaGreatDoorR.PPLN Go.Proofs.YtcljnjnlafkieaaGreatDoorRW.PrintWords Go.Proofs.YtcljnjnlafkieaaGreatDoorRW.PrintLast
def opp (n : Int) : Int := if n = 1 then 4 else if n = 2 then 3 else if n = 3 then 2 else 1
def kindOf (f0 : Int) (nt : Bool) : Int := if nt = true then 3 - f0 else f0
def groupN (kind : Int) (n : Nat) : S45 := ⟨kind, (n : Int), ⟨#[]⟩, 0, ⟨0, 0⟩⟩
def leafT (n : S45) (nt : Bool) : Tr :=
  if nt = true then (if n.f0 = 6 ∨ n.f0 = 7 then .mk ⟨n.f0, n.f1, n.f2, opp n.f3, n.f4⟩ [] else .mk ⟨3, 1, ⟨#[]⟩, 0, ⟨0, 0⟩⟩ [.mk n []]) else .mk n []
def Tr.kids : Tr → List Tr
  | .mk _ ks => ks
def merge (kind : Int) : List Tr → List Tr
  | [] => []
  | t :: ts => (if t.root.f0 = kind then t.kids else [t]) ++ merge kind ts
mutual
def Tr.pl : Tr → Bool → Tr
  | .mk n ks, nt =>
    if n.f0 = 3 then (pls ks (!nt)).headD (.mk n [])
    else if n.f0 = 1 ∨ n.f0 = 2 then .mk (groupN (kindOf n.f0 nt) (merge (kindOf n.f0 nt) (pls ks nt)).length) (merge (kindOf n.f0 nt) (pls ks nt))
    else leafT n nt
def pls : List Tr → Bool → List Tr
  | [], _ => []
  | t :: ts, nt => t.pl nt :: pls ts nt
end
theorem wfs_mem (F : S45 → Bool) (a b : Int) : ∀ (ts : List Tr), wfs F a b ts → ∀ t ∈ ts, t.wf F a b
  | [], _, t, h => by cases h
  | x :: xs, hw, t, h => by
    rw [wfs] at hw
    rcases List.mem_cons.1 h with rfl | h
    · exact hw.1
    · exact wfs_mem F a b xs hw.2 t h
theorem flat_root (t : Tr) : t.flat = t.root :: flats t.kids := by
  cases t; rw [Tr.flat]; first | done | rfl
theorem fmB_leaf (m : S45) (h : fmB m = true) (h1 : ¬ (m.f0 = 1 ∨ m.f0 = 2)) (h3 : ¬ m.f0 = 3) : m.f1 = 0 ∧ (m.f0 = 4 ∨ m.f0 = 5 ∨ m.f0 = 6 ∨ m.f0 = 7) := by
  unfold fmB at h
  rw [if_neg h1, if_neg h3] at h
  split at h
  · simp only [Bool.and_eq_true, decide_eq_true_iff] at h; omega
  · split at h
    · simp only [Bool.and_eq_true, decide_eq_true_iff] at h; omega
    · cases h
theorem fmB_not (m : S45) (h : fmB m = true) (h3 : m.f0 = 3) : m.f1 = 1 := by
  unfold fmB at h
  rw [if_neg (by omega), if_pos h3] at h
  simp only [Bool.and_eq_true, decide_eq_true_iff] at h
  exact h.2
theorem one_kid {ts : List Tr} (h : ts.length = 1) : ∃ t, ts = [t] := by
  cases ts with
  | nil => cases h
  | cons t ts => cases ts with
    | nil => exact ⟨t, rfl⟩
    | cons _ _ => simp at h
mutual
theorem pl_kids : ∀ (t : Tr) (nt : Bool) (a b : Int), t.wf fmB a b → (t.pl nt).root.f1 = ((t.pl nt).kids.length : Int)
  | .mk n ks, nt, a, b, hw => by
    rw [Tr.wf] at hw
    rw [Tr.pl]
    by_cases h3 : n.f0 = 3
    · rw [if_pos h3]
      obtain ⟨t, rfl⟩ := one_kid (ts := ks) (by have := fmB_not n hw.2.1 h3; have := hw.2.2.2.1; omega)
      have := hw.2.2.2.2
      rw [wfs] at this
      exact pls_kids [t] (!nt) _ _ hw.2.2.2.2 _ (by rw [pls]; exact List.mem_cons_self)
    · rw [if_neg h3]
      by_cases h1 : n.f0 = 1 ∨ n.f0 = 2
      · rw [if_pos h1]; rfl
      · rw [if_neg h1]
        have hl := fmB_leaf n hw.2.1 h1 h3
        unfold leafT
        by_cases h : nt = true
        · rw [if_pos h]
          by_cases h6 : n.f0 = 6 ∨ n.f0 = 7
          · rw [if_pos h6]; exact hl.1
          · rw [if_neg h6]; rfl
        · rw [if_neg h]; exact hl.1
theorem pls_kids : ∀ (ts : List Tr) (nt : Bool) (a b : Int), wfs fmB a b ts → ∀ p ∈ pls ts nt, p.root.f1 = (p.kids.length : Int)
  | [], nt, a, b, _, p, hp => by rw [pls] at hp; cases hp
  | t :: ts, nt, a, b, hw, p, hp => by
    rw [wfs] at hw
    rw [pls] at hp
    rcases List.mem_cons.1 hp with rfl | hp
    · exact pl_kids t nt a b hw.1
    · exact pls_kids ts nt a b hw.2 p hp
end
theorem flats_kids_le (t : Tr) : (flats t.kids).length + 1 = t.flat.length := by rw [flat_root, List.length_cons]
theorem merge_flats (kind : Int) : ∀ (ps : List Tr), (flats (merge kind ps)).length ≤ (flats ps).length
  | [] => by rw [merge]; exact Nat.le_refl _
  | t :: ts => by
    have := merge_flats kind ts
    have hk := flats_kids_le t
    rw [merge, flats_append, flats, List.length_append, List.length_append]
    split
    · omega
    · rw [flats, flats, List.append_nil]; omega
mutual
theorem pl_len : ∀ (t : Tr) (nt : Bool), (t.pl nt).flat.length ≤ 2 * t.flat.length
  | .mk n ks, nt => by
    have ih := pls_flats ks
    rw [Tr.pl, Tr.flat, List.length_cons]
    split
    · cases ks with
      | nil => rw [pls]; show (Tr.flat (.mk n [])).length ≤ _; rw [Tr.flat, flats]; simp
      | cons t ts =>
        have := ih (!nt)
        rw [pls, flats, List.length_append] at this
        rw [pls]
        show (t.pl (!nt)).flat.length ≤ _
        omega
    · split
      · have h1 := ih nt
        have h2 := merge_flats (kindOf n.f0 nt) (pls ks nt)
        rw [Tr.flat, List.length_cons]
        omega
      · unfold leafT
        split
        · split
          · rw [Tr.flat, flats]; simp; omega
          · rw [Tr.flat, flats, flats, Tr.flat, flats]; simp; omega
        · rw [Tr.flat, flats]; simp; omega
theorem pls_flats : ∀ (ts : List Tr) (nt : Bool), (flats (pls ts nt)).length ≤ 2 * (flats ts).length
  | [], nt => by rw [pls]; simp [flats]
  | t :: ts, nt => by
    have h1 := pl_len t nt
    have h2 := pls_flats ts nt
    rw [pls, flats, flats, List.length_append, List.length_append]; omega
end
theorem kids_le_flats : ∀ (ks : List Tr), ks.length ≤ (flats ks).length
  | [] => Nat.zero_le _
  | k :: ks => by
    have := kids_le_flats ks
    have := flats_kids_le k
    rw [flats, List.length_append, List.length_cons]; omega
theorem opp_some (a : Int) : traits_opposite.f a = some (opp a) := by
  unfold traits_opposite.f opp
  split
  · rfl
  · split
    · rfl
    · split <;> rfl
theorem bare_some (m : S45) (nt : Bool) : traits_bare.f m.f0 m.f1 m.f2 m.f3 m.f4.f0 m.f4.f1 nt = some (leafT m nt).flat := by
  unfold traits_bare.f leafT
  by_cases h : nt = true
  · rw [if_pos h, if_pos h]
    by_cases h6 : m.f0 = 6 ∨ m.f0 = 7
    · rw [if_pos h6, if_pos h6, opp_some]; rw [Tr.flat, flats]; rfl
    · rw [if_neg h6, if_neg h6, Tr.flat, flats, Tr.flat, flats]; rfl
  · rw [if_neg h, if_neg h, Tr.flat, flats]
theorem kidsP_spec (l : List S45) (T : Nat → Option (List S45 × Nat)) (nt : Bool) (kind : Int) : ∀ (ts acc : List Tr) (i : Nat) (rest : List S45),
    (∀ t ∈ ts, (t.pl nt).root.f1 = ((t.pl nt).kids.length : Int) ∧ ∀ i rest, l.drop i = t.flat ++ rest → T i = some ((t.pl nt).flat, i + t.flat.length)) → l.drop i = flats ts ++ rest → acc.length + 2 * (flats ts).length ≤ 100000 →
    kidsP T kind ts.length (groupN kind acc.length :: flats acc) i = some (groupN kind (acc ++ merge kind (pls ts nt)).length :: flats (acc ++ merge kind (pls ts nt)), i + (flats ts).length)
  | [], acc, i, rest, _, _, _ => by simp only [pls, merge, List.append_nil, show flats [] = [] from by rw [flats], kidsP, List.length_nil, Nat.add_zero]
  | t :: ts, acc, i, rest, hT, hd, hb => by
    obtain ⟨hk, hTt⟩ := hT t List.mem_cons_self
    rw [flats, List.append_assoc] at hd
    rw [flats, List.length_append] at hb
    have hlen := pl_len t nt
    have hkl := kids_le_flats (t.pl nt).kids
    have hfk := flats_kids_le (t.pl nt)
    have hdj : l.drop (i + t.flat.length) = flats ts ++ rest := by rw [← List.drop_drop, hd, List.drop_left]
    rw [List.length_cons, kidsP, hTt i _ hd, Option.bind_some, flat_root (t.pl nt)]
    simp only []
    rw [pls, merge, show (flats (t :: ts)).length = t.flat.length + (flats ts).length from by rw [flats, List.length_append], ← Nat.add_assoc, ← List.append_assoc]
    by_cases hc : (t.pl nt).root.f0 = kind
    · rw [if_pos hc, if_pos hc]
      have e : ({ groupN kind acc.length with f1 := wrap64 ((groupN kind acc.length).f1 + (t.pl nt).root.f1) } :: flats acc) ++ flats (t.pl nt).kids = groupN kind (acc ++ (t.pl nt).kids).length :: flats (acc ++ (t.pl nt).kids) := by
        rw [flats_append, List.cons_append, hk, List.length_append]
        show S45.mk kind (wrap64 ((acc.length : Int) + ((t.pl nt).kids.length : Int))) _ _ _ :: _ = S45.mk kind ((acc.length + (t.pl nt).kids.length : Nat) : Int) _ _ _ :: _
        rw [wrap_id (by omega) (by omega), Int.natCast_add]; rfl
      rw [e]
      exact kidsP_spec l T nt kind ts (acc ++ (t.pl nt).kids) _ rest (fun x hx => hT x (List.mem_cons_of_mem _ hx)) hdj (by rw [List.length_append]; omega)
    · rw [if_neg hc, if_neg hc]
      have e : ({ groupN kind acc.length with f1 := wrap64 ((groupN kind acc.length).f1 + 1) } :: flats acc) ++ ((t.pl nt).root :: flats (t.pl nt).kids) = groupN kind (acc ++ [t.pl nt]).length :: flats (acc ++ [t.pl nt]) := by
        rw [flats_append, List.cons_append, List.length_append, flats, flats, List.append_nil, flat_root (t.pl nt)]
        show S45.mk kind (wrap64 ((acc.length : Int) + 1)) _ _ _ :: _ = S45.mk kind ((acc.length + 1 : Nat) : Int) _ _ _ :: _
        rw [wrap_id (by omega) (by omega), Int.natCast_add]; rfl
      rw [e]
      exact kidsP_spec l T nt kind ts (acc ++ [t.pl nt]) _ rest (fun x hx => hT x (List.mem_cons_of_mem _ hx)) hdj (by rw [List.length_append, List.length_singleton]; omega)
theorem plainF_spec (l : List S45) (hl : l.length ≤ 64) : ∀ (d : Nat) (t : Tr) (deep under : Int) (nt : Bool) (i : Nat) (rest : List S45), t.wf fmB deep under → 17 ≤ (d : Int) + deep → l.drop i = t.flat ++ rest → plainF l d nt i = some ((t.pl nt).flat, i + t.flat.length)
  | 0, .mk n ks, deep, under, nt, i, rest, hw, hd, _ => by rw [Tr.wf] at hw; omega
  | d + 1, .mk n ks, deep, under, nt, i, rest, hw, hd, h => by
    rw [Tr.wf] at hw
    obtain ⟨h1, h2, h3, h4, h5⟩ := hw
    have hlt : i < l.length := by
      refine Nat.lt_of_not_le fun q => ?_
      rw [List.drop_of_length_le q, Tr.flat] at h
      cases h
    have hsz : (flats ks).length < 64 := by
      have := congrArg List.length h
      rw [List.length_drop, Tr.flat, List.length_append, List.length_cons] at this
      omega
    rw [rd_dropT l i hlt, Tr.flat, List.cons_append] at h
    obtain ⟨hn, h⟩ := List.cons.inj h
    rw [plainF, if_pos hlt, hn, Tr.flat, List.length_cons]
    have hks : ∀ (nt : Bool), ∀ t ∈ ks, (t.pl nt).root.f1 = ((t.pl nt).kids.length : Int) ∧ ∀ i rest, l.drop i = t.flat ++ rest → plainF l d nt i = some ((t.pl nt).flat, i + t.flat.length) := fun nt t ht =>
      ⟨pl_kids t nt _ _ (wfs_mem _ _ _ ks h5 t ht), fun i rest hi => plainF_spec l hl d t (deep + 1) n.f0 nt i rest (wfs_mem _ _ _ ks h5 t ht) (by omega) hi⟩
    rw [Tr.pl]
    by_cases c3 : n.f0 = 3
    · rw [if_pos c3, if_pos c3]
      obtain ⟨t, rfl⟩ := one_kid (ts := ks) (by have := fmB_not n h2 c3; omega)
      rw [flats, flats, List.append_nil] at h
      rw [(hks (!nt) t List.mem_cons_self).2 (i + 1) rest h, pls, flats, flats, List.append_nil, Nat.add_assoc, Nat.add_comm 1]; rfl
    · rw [if_neg c3, if_neg c3]
      by_cases c1 : n.f0 = 1 ∨ n.f0 = 2
      · rw [if_pos c1, if_pos c1, show n.f1.toNat = ks.length by omega]
        have := kidsP_spec l (plainF l d nt) nt (kindOf n.f0 nt) ks [] (i + 1) rest (hks nt) h (by rw [List.length_nil]; omega)
        rw [List.nil_append] at this
        rw [Tr.flat, Nat.add_comm (flats ks).length, ← Nat.add_assoc]
        exact this
      · rw [if_neg c1, if_neg c1, bare_some]
        have : ks = [] := List.eq_nil_of_length_eq_zero (by have := (fmB_leaf n h2 c1 c3).1; omega)
        rw [this, flats]; rfl
end Go.Proofs.YtcljnjnlafkieaaGreatDoorR.CTr
