/- TraitTables: two conditions under a Not, an Or, an And: what such a list of nodes is as a tree, and what it holds for. -/
import Derived.Test.YtlboolhjfffppaaDoorCTrBase
import Derived.Test.YtlboolhjfffppaaDoorTblUnder
namespace Go.Proofs.YtlboolhjfffppaaDoor.CTr
open Go Go.RowKit Go.Proofs.YtlboolhjfffppaaDoor.PTBL Go.Proofs.YtlboolhjfffppaaDoorW.PrintWords Go.Proofs.YtlboolhjfffppaaDoorW.PrintLast
set_option linter.unusedVariables false
theorem check_two (l : List S35) (k : Nat) (hk : 6000 ≤ k) (hne : l.length ≠ 0) :
    (∃ t, Tr.wf fmB 1 0 t ∧ t.flat = l ∧ l.length ≤ 64 ∧ traits_Check.f k l = some 0) ∨ traits_Check.f k l = some 131 := by
  by_cases h1 : 64 < l.length
  · refine Or.inr ?_
    unfold traits_Check.f
    rw [if_neg hne, if_pos h1]
  · rcases tree_spec k fmB (formed_some k (by omega)) fmB_kids l 20 1 0 0 (Nat.zero_le _) (by omega) (by omega) with ⟨t, j, e, hw, hd, _, hj⟩ | ⟨j, e, hj, hno⟩
    · by_cases h2 : j = l.length
      · rw [h2, List.drop_length, List.append_nil, List.drop_zero] at hd
        refine Or.inl ⟨t, hw, hd.symm, by omega, ?_⟩
        rw [hd]; exact check_flat t hw (by rw [← hd]; omega) k hk
      · refine Or.inr ?_
        unfold traits_Check.f
        rw [if_neg hne, if_neg h1, e]
        show some (if true = true ∧ j = l.length then (0 : Int) else 131) = some 131
        rw [if_neg (fun q => h2 q.2)]
    · refine Or.inr ?_
      unfold traits_Check.f
      rw [if_neg hne, if_neg h1, e]
      show some (if false = true ∧ j = l.length then (0 : Int) else 131) = some 131
      rw [if_neg (fun q => Bool.false_ne_true q.1)]
theorem holds_two {lB lL : List ByteArray} {fa fd fq : Int} (l : List S35) (hlow : ∀ n ∈ l, Low n) (k : Nat) (hk : 6000 ≤ k) (hF : Fits lB lL fa fd fq) (hfit : traits_Fit.f k lB lL fa fd fq = some 0) (hne : l.length ≠ 0) :
    (∃ t, Tr.wf fmB 1 0 t ∧ t.flat = l ∧ l.length ≤ 64 ∧ traits_Check.f k l = some 0 ∧ traits_Holds.f k l lB lL fa fd fq = some (t.ev (TT k lB lL fa fd fq), 0)) ∨ (traits_Check.f k l = some 131 ∧ traits_Holds.f k l lB lL fa fd fq = some (false, 131)) := by
  rcases check_two l k hk hne with ⟨t, hw, rfl, h64, hc⟩ | hc
  · exact Or.inl ⟨t, hw, rfl, h64, hc, holds_flat t hw h64 hlow k hk hF hfit⟩
  · refine Or.inr ⟨hc, ?_⟩
    unfold traits_Holds.f
    rw [hc, Option.bind_some, if_neg (by decide)]
theorem holds_any (l : List S35) (hlow : ∀ n ∈ l, Low n) (k : Nat) (hk : 6000 ≤ k) (lB lL : List ByteArray) (fa fd fq : Int) (ha : fa ≤ 9223372036854775807) (hq : fq ≤ 9223372036854775807) :
    ∃ x i, traits_Holds.f k l lB lL fa fd fq = some (x, i) ∧ (i = 0 → traits_Check.f k l = some 0 ∧ traits_Fit.f k lB lL fa fd fq = some 0) := by
  obtain ⟨h, hfit⟩ := fitp_some lB lL fa fd fq k (by omega)
  have key : ∀ c, traits_Check.f k l = some c → ¬ c = 0 → ∃ x i, traits_Holds.f k l lB lL fa fd fq = some (x, i) ∧ (i = 0 → traits_Check.f k l = some 0 ∧ traits_Fit.f k lB lL fa fd fq = some 0) := fun c hc h0 => by
    refine ⟨false, c, ?_, fun q => absurd q h0⟩
    unfold traits_Holds.f
    rw [hc, Option.bind_some, if_neg h0]
  have key2 : traits_Check.f k l = some 0 → ¬ h = 0 → ∃ x i, traits_Holds.f k l lB lL fa fd fq = some (x, i) ∧ (i = 0 → traits_Check.f k l = some 0 ∧ traits_Fit.f k lB lL fa fd fq = some 0) := fun hc h0 => by
    refine ⟨false, h, ?_, fun q => absurd q h0⟩
    unfold traits_Holds.f
    rw [hc, Option.bind_some, if_pos rfl, hfit, Option.bind_some, if_neg h0]
  by_cases hne : l.length = 0
  · have hc : traits_Check.f k l = some 0 := by
      unfold traits_Check.f
      rw [if_pos hne]
    by_cases h0 : h = 0
    · subst h0
      refine ⟨true, 0, ?_, fun _ => ⟨hc, hfit⟩⟩
      unfold traits_Holds.f
      rw [hc, Option.bind_some, if_pos rfl, hfit, Option.bind_some, if_pos rfl, if_pos hne]
    · exact key2 hc h0
  · rcases check_two l k hk hne with ⟨t, hw, hl, h64, hc⟩ | hc
    · by_cases h0 : h = 0
      · subst h0
        subst hl
        exact ⟨_, 0, holds_flat t hw h64 hlow k hk (fits_of hfit ha hq) hfit, fun _ => ⟨hc, hfit⟩⟩
      · exact key2 hc h0
    · exact key 131 hc (by decide)
def stripL (kind : Int) (x : List S35) : List S35 := if (rd_T35 x 0).f0 = kind then x.drop 1 else x
def stripK (kind : Int) (x : List S35) : Int := if (rd_T35 x 0).f0 = kind then (rd_T35 x 0).f1 else 1
def underL (kind : Int) (a b : List S35) : List S35 := ⟨kind, stripK kind a + stripK kind b, ⟨#[]⟩, 0, ⟨0, 0⟩⟩ :: (stripL kind a ++ stripL kind b)
theorem rd_root (t : Tr) : rd_T35 t.flat 0 = t.root := by
  rw [flat_root]; rfl
theorem strip_flat (kind : Int) (t : Tr) : stripL kind t.flat = flats (if t.root.f0 = kind then t.kids else [t]) := by
  unfold stripL
  rw [rd_root]
  by_cases h : t.root.f0 = kind
  · rw [if_pos h, if_pos h, flat_root]; rfl
  · rw [if_neg h, if_neg h, flats, flats, List.append_nil]
theorem root_kids (t : Tr) (a b : Int) (hw : t.wf fmB a b) : t.root.f1 = (t.kids.length : Int) := by
  obtain ⟨n, ks⟩ := t
  rw [Tr.wf] at hw
  exact hw.2.2.2.1.symm
theorem stripK_len (kind : Int) (t : Tr) (a b : Int) (hw : t.wf fmB a b) : stripK kind t.flat = ((if t.root.f0 = kind then t.kids else [t]).length : Int) := by
  unfold stripK
  rw [rd_root]
  by_cases h : t.root.f0 = kind
  · rw [if_pos h, if_pos h, root_kids t a b hw]
  · rw [if_neg h, if_neg h]; rfl
theorem under_flat (kind : Int) (ta tb : Tr) (ha : ta.wf fmB 1 0) (hb : tb.wf fmB 1 0) : underL kind ta.flat tb.flat = groupN kind (merge kind [ta, tb]).length :: flats (merge kind [ta, tb]) := by
  unfold underL groupN
  rw [strip_flat, strip_flat, stripK_len kind ta 1 0 ha, stripK_len kind tb 1 0 hb, merge, merge, merge, List.append_nil, flats_append, List.length_append, Int.natCast_add]
theorem wfs_top : ∀ (ts : List Tr) (a b : Int), 1 ≤ a → wfs fmB a b ts → wfs fmB 1 0 ts
  | [], _, _, _, _ => by rw [wfs]; trivial
  | .mk n ks :: ts, a, b, h, hw => by
    rw [wfs] at hw ⊢
    exact ⟨wf_mono fmB _ a 1 0 h ((wf_zero a b n ks).1 hw.1).1, wfs_top ts a b h hw.2⟩
theorem part_top (kind : Int) (t : Tr) (hw : t.wf fmB 1 0) : wfs fmB 1 0 (if t.root.f0 = kind then t.kids else [t]) := by
  obtain ⟨n, ks⟩ := t
  by_cases h : n.f0 = kind
  · rw [if_pos (show (Tr.mk n ks).root.f0 = kind from h)]
    have hw2 := hw
    rw [Tr.wf] at hw2
    exact wfs_top ks _ _ (by omega) hw2.2.2.2.2
  · rw [if_neg (show ¬ (Tr.mk n ks).root.f0 = kind from h), wfs, wfs]
    exact ⟨hw, trivial⟩
theorem under_holds {lB lL : List ByteArray} {fa fd fq : Int} (kind : Int) (hkd : kind = 1 ∨ kind = 2) (ta tb : Tr) (ha : ta.wf fmB 1 0) (hb : tb.wf fmB 1 0) (hla : ∀ n ∈ ta.flat, Low n) (hlb : ∀ n ∈ tb.flat, Low n) (k : Nat) (hk : 6000 ≤ k) (hF : Fits lB lL fa fd fq) (hfit : traits_Fit.f k lB lL fa fd fq = some 0) :
    ∃ o i, traits_Check.f k (underL kind ta.flat tb.flat) = some i ∧ traits_Holds.f k (underL kind ta.flat tb.flat) lB lL fa fd fq = some (o, i) ∧ ((i = 0 ∧ o = if kind = 1 then (ta.ev (TT k lB lL fa fd fq) || tb.ev (TT k lB lL fa fd fq)) else (ta.ev (TT k lB lL fa fd fq) && tb.ev (TT k lB lL fa fd fq))) ∨ (i = 131 ∧ o = false)) := by
  have hlow : ∀ n ∈ underL kind ta.flat tb.flat, Low n := by
    intro n hn
    unfold underL at hn
    rcases List.mem_cons.1 hn with rfl | hn
    · show (0 : Int) ≤ 9223372036854775807; decide
    · have hs : ∀ x : List S35, ∀ m ∈ stripL kind x, m ∈ x := fun x m hm => by
        unfold stripL at hm
        split at hm
        · exact List.mem_of_mem_drop hm
        · exact hm
      rcases List.mem_append.1 hn with hn | hn
      · exact hla n (hs _ _ hn)
      · exact hlb n (hs _ _ hn)
  rcases holds_two (underL kind ta.flat tb.flat) hlow k hk hF hfit (by unfold underL; rw [List.length_cons]; omega) with ⟨t, hw, hfl, h64, hc, hh⟩ | ⟨hc, hh⟩
  · refine ⟨_, 0, hc, hh, Or.inl ⟨rfl, ?_⟩⟩
    rw [under_flat kind ta tb ha hb] at hfl
    obtain ⟨n, ks⟩ := t
    rw [Tr.wf] at hw
    rw [Tr.flat] at hfl
    obtain ⟨hn, hks⟩ := List.cons.inj hfl
    subst hn
    have hlen : ks.length = (merge kind [ta, tb]).length := by have := hw.2.2.2.1; have e : (groupN kind (merge kind [ta, tb]).length).f1 = ((merge kind [ta, tb]).length : Int) := rfl; omega
    have hm : wfs fmB 1 0 (merge kind [ta, tb]) := by
      rw [merge, merge, merge, List.append_nil]
      exact wfs_append fmB 1 0 _ _ (part_top kind ta ha) (part_top kind tb hb)
    obtain ⟨rfl, _⟩ := flats_uniq fmB ks _ _ _ _ (merge kind [ta, tb]) [] [] hlen hw.2.2.2.2 hm (by rw [List.append_nil, List.append_nil]; exact hks)
    rcases hkd with rfl | rfl
    · rw [if_pos rfl, Tr.ev, if_pos (show (groupN 1 _).f0 = 1 from rfl), any_merge, evAny, evAny, evAny, Bool.or_false]
    · rw [if_neg (by decide), Tr.ev, if_neg (show ¬ (groupN 2 _).f0 = 1 from by show ¬ (2 : Int) = 1; decide), if_pos (show (groupN 2 _).f0 = 2 from rfl), all_merge, evAll, evAll, evAll, Bool.and_true]
  · exact ⟨false, 131, hc, hh, Or.inr ⟨rfl, rfl⟩⟩
theorem not_holds {lB lL : List ByteArray} {fa fd fq : Int} (ta : Tr) (ha : ta.wf fmB 1 0) (hla : ∀ n ∈ ta.flat, Low n) (k : Nat) (hk : 6000 ≤ k) (hF : Fits lB lL fa fd fq) (hfit : traits_Fit.f k lB lL fa fd fq = some 0) :
    ∃ o i, traits_Check.f k (notN :: ta.flat) = some i ∧ traits_Holds.f k (notN :: ta.flat) lB lL fa fd fq = some (o, i) ∧ ((i = 0 ∧ o = !ta.ev (TT k lB lL fa fd fq)) ∨ (i = 131 ∧ o = false)) := by
  have hlow : ∀ n ∈ notN :: ta.flat, Low n := by
    intro n hn
    rcases List.mem_cons.1 hn with rfl | hn
    · show (0 : Int) ≤ 9223372036854775807; decide
    · exact hla n hn
  rcases holds_two (notN :: ta.flat) hlow k hk hF hfit (by rw [List.length_cons]; omega) with ⟨t, hw, hfl, h64, hc, hh⟩ | ⟨hc, hh⟩
  · refine ⟨_, 0, hc, hh, Or.inl ⟨rfl, ?_⟩⟩
    obtain ⟨n, ks⟩ := t
    rw [Tr.wf] at hw
    rw [Tr.flat] at hfl
    obtain ⟨hn, hks⟩ := List.cons.inj hfl
    subst hn
    obtain ⟨t', rfl⟩ := one_kid (ts := ks) (by have := hw.2.2.2.1; have e : notN.f1 = 1 := rfl; omega)
    rw [flats, flats, List.append_nil] at hks
    have hw2 := hw.2.2.2.2
    rw [wfs] at hw2
    obtain ⟨rfl, _⟩ := flat_uniq fmB t' _ _ _ _ ta [] [] hw2.1 ha (by rw [List.append_nil, List.append_nil]; exact hks)
    rw [Tr.ev, if_neg (show ¬ notN.f0 = 1 from by show ¬ (3 : Int) = 1; decide), if_neg (show ¬ notN.f0 = 2 from by show ¬ (3 : Int) = 2; decide), if_pos (show notN.f0 = 3 from rfl), evAll, evAll, Bool.and_true]
  · exact ⟨false, 131, hc, hh, Or.inr ⟨rfl, rfl⟩⟩
theorem stU_eq (kind : Int) (a b : List S35) (ha : 0 ≤ (rd_T35 a 0).f1 ∧ (rd_T35 a 0).f1 ≤ 64) (hb : 0 ≤ (rd_T35 b 0).f1 ∧ (rd_T35 b 0).f1 ≤ 64) : (stU kind a b 2).1 :: (stU kind a b 2).2 = underL kind a b := by
  have e : stU kind a b 2 = stepU kind (stepU kind (⟨kind, 2, ⟨#[]⟩, 0, ⟨0, 0⟩⟩, []) a) b := rfl
  rw [e]
  unfold underL stripK stripL stepU
  by_cases c1 : (rd_T35 a 0).f0 = kind
  · by_cases c2 : (rd_T35 b 0).f0 = kind
    · rw [if_pos c1, if_pos c2, if_pos c1, if_pos c1, if_pos c2, if_pos c2]
      simp only [List.nil_append]
      rw [wrap_id (x := 2 + (rd_T35 a 0).f1) (by omega) (by omega), wrap_id (x := 2 + (rd_T35 a 0).f1 - 1) (by omega) (by omega), wrap_id (x := 2 + (rd_T35 a 0).f1 - 1 + (rd_T35 b 0).f1) (by omega) (by omega), wrap_id (by omega) (by omega), show 2 + (rd_T35 a 0).f1 - 1 + (rd_T35 b 0).f1 - 1 = (rd_T35 a 0).f1 + (rd_T35 b 0).f1 from by omega]
    · rw [if_pos c1, if_neg c2, if_pos c1, if_pos c1, if_neg c2, if_neg c2]
      simp only [List.nil_append]
      rw [wrap_id (x := 2 + (rd_T35 a 0).f1) (by omega) (by omega), wrap_id (by omega) (by omega), show 2 + (rd_T35 a 0).f1 - 1 = (rd_T35 a 0).f1 + 1 from by omega]
  · by_cases c2 : (rd_T35 b 0).f0 = kind
    · rw [if_neg c1, if_pos c2, if_neg c1, if_neg c1, if_pos c2, if_pos c2]
      simp only [List.nil_append]
      rw [wrap_id (x := 2 + (rd_T35 b 0).f1) (by omega) (by omega), wrap_id (by omega) (by omega), show 2 + (rd_T35 b 0).f1 - 1 = 1 + (rd_T35 b 0).f1 from by omega]
    · rw [if_neg c1, if_neg c2, if_neg c1, if_neg c1, if_neg c2, if_neg c2]
      simp only [List.nil_append]
      rfl
theorem head_kids (t : Tr) (hw : t.wf fmB 1 0) (h64 : t.flat.length ≤ 64) : (0 ≤ (rd_T35 t.flat 0).f1 ∧ (rd_T35 t.flat 0).f1 ≤ 64) ∧ ∀ kind : Int, kind = 1 ∨ kind = 2 → (rd_T35 t.flat 0).f0 = kind → 2 ≤ t.flat.length := by
  rw [rd_root]
  have hk := root_kids t 1 0 hw
  have h1 := kids_le_flats t.kids
  have h2 := flats_kids_le t
  refine ⟨by omega, fun kind hkd h0 => ?_⟩
  obtain ⟨n, ks⟩ := t
  rw [Tr.wf] at hw
  have := fmB_group n hw.2.1 (by have e : n.f0 = kind := h0; omega)
  have e : (Tr.mk n ks).root.f1 = n.f1 := rfl
  omega
theorem tables_cases (a b : List S35) (hla : ∀ n ∈ a, Low n) (hlb : ∀ n ∈ b, Low n) (k : Nat) (hk : 6000 ≤ k) (lB lL : List ByteArray) (fa fd fq : Int) (hfa : fa ≤ 9223372036854775807) (hfq : fq ≤ 9223372036854775807) :
    ∃ x e y g, traits_Holds.f k a lB lL fa fd fq = some (x, e) ∧ traits_Holds.f k b lB lL fa fd fq = some (y, g) ∧
      ((e ≠ 0 ∨ g ≠ 0 ∨ a.length = 0 ∨ b.length = 0) ∨
        (e = 0 ∧ g = 0 ∧ 1 ≤ a.length ∧ a.length ≤ 64 ∧ 1 ≤ b.length ∧ b.length ≤ 64 ∧ (∀ kind : Int, kind = 1 ∨ kind = 2 → (rd_T35 a 0).f0 = kind → 2 ≤ a.length) ∧ (∀ kind : Int, kind = 1 ∨ kind = 2 → (rd_T35 b 0).f0 = kind → 2 ≤ b.length) ∧
          ((stU 1 a b 2).1 :: (stU 1 a b 2).2 = underL 1 a b) ∧ ((stU 2 a b 2).1 :: (stU 2 a b 2).2 = underL 2 a b) ∧
          ∃ n h o i u j, traits_Check.f k (notN :: a) = some h ∧ traits_Holds.f k (notN :: a) lB lL fa fd fq = some (n, h) ∧ ((h = 0 ∧ n = !x) ∨ (h = 131 ∧ n = false)) ∧
            traits_Check.f k (underL 1 a b) = some i ∧ traits_Holds.f k (underL 1 a b) lB lL fa fd fq = some (o, i) ∧ ((i = 0 ∧ o = (x || y)) ∨ (i = 131 ∧ o = false)) ∧
            traits_Check.f k (underL 2 a b) = some j ∧ traits_Holds.f k (underL 2 a b) lB lL fa fd fq = some (u, j) ∧ ((j = 0 ∧ u = (x && y)) ∨ (j = 131 ∧ u = false)))) := by
  obtain ⟨x, e, h1, h2⟩ := holds_any a hla k hk lB lL fa fd fq hfa hfq
  obtain ⟨y, g, h3, h4⟩ := holds_any b hlb k hk lB lL fa fd fq hfa hfq
  refine ⟨x, e, y, g, h1, h3, ?_⟩
  by_cases e0 : e = 0
  · by_cases g0 : g = 0
    · by_cases a0 : a.length = 0
      · exact Or.inl (Or.inr (Or.inr (Or.inl a0)))
      · by_cases b0 : b.length = 0
        · exact Or.inl (Or.inr (Or.inr (Or.inr b0)))
        · obtain ⟨c1, hfit⟩ := h2 e0
          obtain ⟨c2, _⟩ := h4 g0
          have hF := fits_of hfit hfa hfq
          rcases check_two a k hk a0 with ⟨ta, wa, rfl, la, _⟩ | q
          · rcases check_two b k hk b0 with ⟨tb, wb, rfl, lb, _⟩ | q
            · rw [holds_flat ta wa la hla k hk hF hfit] at h1
              rw [holds_flat tb wb lb hlb k hk hF hfit] at h3
              obtain ⟨rfl, rfl⟩ := Prod.mk.inj (Option.some.inj h1)
              obtain ⟨rfl, rfl⟩ := Prod.mk.inj (Option.some.inj h3)
              obtain ⟨n, h, n1, n2, n3⟩ := not_holds ta wa hla k hk hF hfit
              obtain ⟨o, i, o1, o2, o3⟩ := under_holds 1 (Or.inl rfl) ta tb wa wb hla hlb k hk hF hfit
              obtain ⟨u, j, u1, u2, u3⟩ := under_holds 2 (Or.inr rfl) ta tb wa wb hla hlb k hk hF hfit
              rw [if_pos rfl] at o3
              rw [if_neg (by decide)] at u3
              obtain ⟨f1, f2⟩ := head_kids ta wa la
              obtain ⟨f3, f4⟩ := head_kids tb wb lb
              exact Or.inr ⟨rfl, rfl, by omega, la, by omega, lb, f2, f4, stU_eq 1 _ _ f1 f3, stU_eq 2 _ _ f1 f3, n, h, o, i, u, j, n1, n2, n3, o1, o2, o3, u1, u2, u3⟩
            · rw [c2] at q; cases q
          · rw [c1] at q; cases q
    · exact Or.inl (Or.inr (Or.inl g0))
  · exact Or.inl (Or.inl e0)
end Go.Proofs.YtlboolhjfffppaaDoor.CTr
