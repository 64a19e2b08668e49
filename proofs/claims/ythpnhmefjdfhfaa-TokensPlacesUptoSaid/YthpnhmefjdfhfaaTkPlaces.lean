/- Each token's text stands at its place, between them blanks and remarks alone; where a text is refused something stands: over the printed functions. -/
import Derived.Test.YthpnhmefjdfhfaaTkHead
import Derived.Test.YthpnhmefjdfhfaaTkPos
import Derived.Test.YthpnhmefjdfhfaaPALLx9
namespace Go.Proofs.Ythpnhmefjdfhfaa.Tk
open Go.RowKit Go.Proofs.Ythpnhmefjdfhfaa.PALL Go.Proofs.YthpnhmefjdfhfaaW.PrintWords Go.Proofs.YthpnhmefjdfhfaaW.PrintLast

theorem blank_some (c : Nat) : tollbooklaw12_blank.f (c : Int) = some (decide (c = 32 ∨ c = 9 ∨ c = 10 ∨ c = 13)) := by
  unfold tollbooklaw12_blank.f
  by_cases h1 : c = 32
  · rw [if_pos (by omega)]; simp [h1]
  · rw [if_neg (by omega)]
    by_cases h2 : c = 9
    · rw [if_pos (by omega)]; simp [h2]
    · rw [if_neg (by omega)]
      by_cases h3 : c = 10
      · rw [if_pos (by omega)]; simp [h3]
      · rw [if_neg (by omega)]
        by_cases h4 : c = 13
        · have : ((c : Int) == 13) = true := beq_iff_eq.2 (by omega)
          rw [this]; simp [h4]
        · have : ((c : Int) == 13) = false := beq_eq_false_iff_ne.2 (by omega)
          rw [this]; simp [h1, h2, h3, h4]
theorem between_loop (s : ByteArray) (hs : s.size ≤ 1000000) : ∀ (m i k : Nat) (f g : Bool), i + m = s.size → btw f ((L s).drop i) = some g → tollbooklaw12_between.l0 (k + 2 * m + 1) s f (i : Int) = some true
  | 0, i, k, f, g, hi, _ => by
    rw [tollbooklaw12_between.l0, if_neg (by omega)]
  | m + 1, i, k, f, g, hi, hb => by
    have hlt : i < (L s).length := by rw [L_len]; omega
    have hd' := List.drop_eq_getElem_cons hlt
    obtain ⟨h1, h2, h3, _⟩ := drop_cons hd'
    rw [hd', btw_cons] at hb
    obtain ⟨c, hc⟩ : ∃ c, (L s)[i] = c := ⟨_, rfl⟩
    rw [hc] at hb h3
    have step : ∀ f', btw f' ((L s).drop (i + 1)) = some g → tollbooklaw12_between.l0 (k + 2 * m + 1) s f' (wrap64 ((i : Int) + 1)) = some true := fun f' hf => by
      rw [wrap_add1 i (by omega)]; exact between_loop s hs m (i + 1) k f' g (by omega) hf
    rw [show k + 2 * (m + 1) + 1 = (k + 2 * m + 1) + 1 + 1 from by omega, tollbooklaw12_between.l0, if_pos (by omega), if_pos (by omega), h3]
    by_cases h10 : c.toNat = 10
    · have n35 : ¬ c.toNat = 35 := by omega
      rw [if_neg n35, if_pos h10] at hb
      rw [if_pos (by omega), tollbooklaw12_between.j1, if_pos (by omega), if_pos (by omega), h3, if_neg (by omega), if_neg Bool.false_ne_true, blank_some, Option.bind_some, if_pos (by simp [h10])]
      exact step false hb
    · rw [if_neg (by omega), tollbooklaw12_between.j1, if_pos (by omega), if_pos (by omega), h3]
      by_cases h35 : c.toNat = 35
      · rw [if_pos h35] at hb
        rw [if_pos (by omega)]; exact step true hb
      · rw [if_neg h35, if_neg h10] at hb
        rw [if_neg (by omega)]
        by_cases hf : f = true
        · rw [if_pos hf] at hb ⊢
          rw [hf]; exact step true hb
        · rw [if_neg hf] at hb ⊢
          by_cases hbl : blank c = true
          · rw [if_pos hbl] at hb
            rw [blank_some, Option.bind_some, if_pos (by simp [blank] at hbl; simp; omega), Bool.eq_false_iff.2 hf]
            exact step false hb
          · rw [if_neg hbl] at hb; cases hb
theorem between_some (s : ByteArray) (hs : s.size ≤ 1000000) (g : Bool) (hb : btw false (L s) = some g) (k : Nat) (hk : 2 * s.size + 1 ≤ k) : tollbooklaw12_between.f k s = some true := by
  unfold tollbooklaw12_between.f
  obtain ⟨k, rfl⟩ : ∃ k', k = k' + 2 * s.size + 1 := ⟨k - 2 * s.size - 1, by omega⟩
  have := between_loop s hs s.size 0 k false g (by omega) (by rw [List.drop_zero]; exact hb)
  exact this
theorem rd_nats (l : List Nat) (i v : Nat) (h : l[i]? = some v) : rd (nats l) (i : Int) = (v : Int) := by
  unfold rd nats
  rw [toNat_cast, List.getD_eq_getElem?_getD, List.getElem?_map, h]; rfl
theorem nats_len (l : List Nat) : (nats l).length = l.length := by simp [nats]
/-- all that is asked of a token list: the ends of it -/
def Ends (ts : List T) : Prop := ∀ i t, ts[i]? = some t → (t.kind = 0 ↔ i + 1 = ts.length) ∧ (t.text = [] ↔ i + 1 = ts.length)
theorem ends_of (k p l b : Nat) (x : List UInt8) (ts : List T) (hk : x.length < k) (h : lex k p l b x = .ok ts) : Ends ts := by
  obtain ⟨us, e, rfl, he1, he2, hg⟩ := lex_shape k p l b x ts hk h
  intro i t ht
  rw [List.length_append, List.length_singleton]
  rcases Nat.lt_or_ge i us.length with hi | hi
  · rw [List.getElem?_append_left hi] at ht
    have hgt := hg t (List.mem_of_getElem? ht)
    refine ⟨⟨fun q => absurd q hgt.1, fun q => by omega⟩, ⟨fun q => ?_, fun q => by omega⟩⟩
    obtain ⟨_, ⟨c, r, hr, _⟩, _⟩ := hgt
    rw [hr] at q; cases q
  · rw [List.getElem?_append_right hi] at ht
    have hi0 : i - us.length = 0 := by
      rcases Nat.eq_zero_or_pos (i - us.length) with q | q
      · exact q
      · rw [List.getElem?_eq_none (by simp; omega)] at ht; cases ht
    rw [hi0] at ht
    simp only [List.getElem?_cons_zero, Option.some.injEq] at ht
    subst ht
    exact ⟨⟨fun _ => by omega, fun _ => he1⟩, ⟨fun _ => by omega, fun _ => he2⟩⟩
theorem places_loop (s : ByteArray) (hs : s.size ≤ 65536) (ts : List T) (hlen : ts.length ≤ 1000000) (hne : ts ≠ []) (hends : Ends ts) : ∀ (m i e k : Nat), i + m = ts.length → e ≤ s.size → Chain (L s) e (ts.drop i) →
    tollbooklaw12_TokensPlaces.l0 (k + 3 * m + 200000) s (ts.map toS) (nats (startsL (L s))) (e : Int) (i : Int) = some true
  | 0, i, e, k, hi, he, hc => by
    obtain rfl : i = ts.length := by omega
    rw [List.drop_length] at hc
    have hee : e = (L s).length := hc
    rw [L_len] at hee
    have hpos : 0 < ts.length := List.length_pos_iff.2 hne
    rw [show k + 3 * 0 + 200000 = (k + 199999) + 1 from by omega, tollbooklaw12_TokensPlaces.l0, List.length_map, if_neg (by omega), if_pos (by omega), hee]
    simp
  | m + 1, i, e, k, hi, he, hc => by
    have hlt : i < ts.length := by omega
    rw [List.drop_eq_getElem_cons hlt] at hc
    obtain ⟨⟨p1, p2, p3, p4, p5, p6, p7⟩, c2, ⟨f, c3⟩, c4⟩ := hc
    obtain ⟨hk0, ht0⟩ := hends i ts[i] (List.getElem?_eq_getElem hlt)
    have hrd := rd_toS ts i ts[i] (List.getElem?_eq_getElem hlt)
    obtain ⟨t, ht⟩ : ∃ t, ts[i] = t := ⟨_, rfl⟩
    rw [ht] at p1 p2 p3 p4 p5 p6 p7 c2 c3 c4 hk0 ht0 hrd
    have hls := L_len s
    rw [hls] at p6
    have hsl := starts_len (L s)
    have hnl : nls (L s) ≤ (L s).length := List.countP_le_length
    have hw : wrap64 ((ts.length : Int) - 1) = ((ts.length - 1 : Nat) : Int) := by
      have := wrap_sub ts.length 1 (by omega) (by omega)
      exact this
    have hlast : ((i : Int) == wrap64 ((ts.length : Int) - 1)) = decide (i + 1 = ts.length) := by
      rw [hw, Bool.eq_iff_iff, beq_iff_eq, decide_eq_true_iff]
      clear hw
      omega
    have hkind : ((toS t).f0 == 0) = decide (i + 1 = ts.length) := by
      rw [Bool.eq_iff_iff, beq_iff_eq, decide_eq_true_iff, ← hk0]
      simp only [toS]; omega
    have htext : ((toS t).f1.toList == ([] : List UInt8)) = decide (i + 1 = ts.length) := by
      rw [Bool.eq_iff_iff, beq_iff_eq, decide_eq_true_iff, ← ht0, Lib.toList_data]
      simp [toS]
    clear hw
    have hf2 : (toS t).f2 = (t.line : Int) := rfl
    have hf3 : (toS t).f3 = (t.col : Int) := rfl
    have hsz : ((toS t).f1.size : Int) = ((t.text.length : Nat) : Int) := rfl
    rw [show k + 3 * (m + 1) + 200000 = ((k + 3 * m + 200000) + 1 + 1) + 1 from by omega, tollbooklaw12_TokensPlaces.l0, List.length_map, if_pos (by omega), if_pos (by omega), hrd, hf2, hf3, nats_len, if_neg (by omega), if_neg (by omega), if_neg (by omega), hkind, hlast, htext]
    have hbb : ((decide (i + 1 = ts.length)) != (decide (i + 1 = ts.length))) = false := by simp
    rw [hbb, if_neg Bool.false_ne_true, tollbooklaw12_TokensPlaces.j2, if_neg Bool.false_ne_true, List.length_map, if_pos (by omega), if_pos (by omega), hrd, hf2, hf3, nats_len]
    have hw1 : wrap64 ((t.line : Int) - 1) = ((t.line - 1 : Nat) : Int) := by
      have := wrap_sub t.line 1 p1 (by omega)
      exact this
    rw [hw1]
    clear hw1
    rw [if_pos (by omega), if_pos (by omega), rd_nats _ _ _ p5]
    have hw2 : wrap64 (wrap64 (((t.pos + 1 - t.col : Nat) : Int) + (t.col : Int)) - 1) = ((t.pos : Nat) : Int) := by
      rw [wrap_add _ _ (by omega), show t.pos + 1 - t.col + t.col = t.pos + 1 from by omega]
      have := wrap_sub (t.pos + 1) 1 (by omega) (by omega)
      exact this
    rw [hw2]
    clear hw2
    rw [if_neg (by omega), hsz, wrap_add _ _ (by omega), if_neg (by omega), if_pos (by omega), if_pos (by omega), if_pos (by omega)]
    simp only [toNat_cast]
    have hext : (s.extract t.pos (t.pos + t.text.length)).toList = (toS t).f1.toList := by
      rw [Lib.toList_data, Lib.toList_data]
      show L (s.extract t.pos (t.pos + t.text.length)) = _
      rw [L_ext, show t.pos + t.text.length - t.pos = t.text.length from by omega, p7]
      simp [toS]
    rw [if_pos hext, if_pos (by omega), if_pos (by omega), if_pos (by omega)]
    have hsegs : (s.extract e t.pos).size ≤ 65536 := by simp; omega
    rw [between_some (s.extract e t.pos) (by omega) f (by rw [L_ext]; exact c3) _ (by omega), Option.bind_some, tollbooklaw12_TokensPlaces.j3, if_neg (by simp), List.length_map, if_pos (by omega), if_pos (by omega), hrd, hsz, wrap_add _ _ (by omega), wrap_add1 i (by omega)]
    exact places_loop s hs ts hlen hne hends m (i + 1) (t.pos + t.text.length) k (by omega) (by omega) c4
theorem TokensPlaces_upto (s : ByteArray) (hs1 : s.size ≤ 1048576) : ∃ k, tollbooklaw12_TokensPlaces.f k s = some true := by
  by_cases hs : s.size ≤ 65536
  · have hls := L_len s
    have hlt : (L s).length < s.size + 1 := by omega
    have hsl := starts_len (L s)
    have hnl : nls (L s) ≤ (L s).length := List.countP_le_length
    refine ⟨2000000, ?_⟩
    unfold tollbooklaw12_TokensPlaces.f
    rw [awake_some _ (by omega), Option.bind_some, if_pos rfl, cut_some s hs _ (by omega), Option.bind_some, starts_some s (by omega) _ (by omega), Option.bind_some]
    cases hx : lex (s.size + 1) 0 1 0 (L s) with
    | err l c p =>
      obtain ⟨e1, e2, e3, e4, e5, d, r, e6, e7⟩ := lex_errpos (s.size + 1) [] (L s) 1 0 l c p hlt inv_nil hx
      rw [List.nil_append] at e2 e5 e6
      obtain ⟨q1, _, q3, _⟩ := drop_cons e6
      rw [render_err]
      simp only
      rw [if_neg (by decide), if_pos (by simp), if_pos trivial, if_neg (by simp), nats_len, if_neg (by omega), if_neg (by omega)]
      have hdf : decide ((c : Int) < 1) = false := decide_eq_false (by omega)
      rw [hdf, show (2000000 : Nat) = 1999999 + 1 from rfl, tollbooklaw12_TokensPlaces.j0, if_neg Bool.false_ne_true, nats_len]
      have hw1 : wrap64 ((l : Int) - 1) = ((l - 1 : Nat) : Int) := by
        have := wrap_sub l 1 e1 (by omega)
        exact this
      rw [hw1]
      clear hw1
      rw [if_pos (by omega), if_pos (by omega), rd_nats _ _ _ e5]
      have hw2 : wrap64 (wrap64 (((p + 1 - c : Nat) : Int) + (c : Int)) - 1) = ((p : Nat) : Int) := by
        rw [wrap_add _ _ (by omega), show p + 1 - c + c = p + 1 from by omega]
        have := wrap_sub (p + 1) 1 (by omega) (by omega)
        exact this
      rw [hw2]
      clear hw2
      rw [if_pos (by omega), if_pos (by omega), q3, blank_some, Option.bind_some]
      obtain ⟨s1, s2, s3⟩ := e7
      simp [Tk.blank] at s2
      simp; omega
    | ok ts =>
      have htot := lex_total _ _ _ _ _ _ hlt hx
      have hch := lex_chain (s.size + 1) [] (L s) 1 0 0 false ts hlt inv_nil (Nat.le_refl _) (by simp [btw]) (fun q => by cases q) hx
      rw [List.nil_append] at hch
      rw [render_ok, no_spot]
      rw [if_neg (show ¬ (0 : Int) = 3 by decide), if_neg Bool.false_ne_true]
      have := places_loop s hs ts (by omega) (lex_len_pos _ _ _ _ _ _ hlt hx) (ends_of _ _ _ _ _ _ hlt hx) ts.length 0 0 (2000000 - 3 * ts.length - 200000) (by omega) (by omega) hch
      rw [show 2000000 - 3 * ts.length - 200000 + 3 * ts.length + 200000 = 2000000 from by omega] at this
      exact this
  · refine ⟨2000000, ?_⟩
    unfold tollbooklaw12_TokensPlaces.f
    rw [awake_some _ (by omega), Option.bind_some, if_pos rfl, cut_long s (by omega), Option.bind_some, starts_some s (by omega) _ (by omega), Option.bind_some]
    simp only
    rw [if_pos trivial, if_pos (by omega), if_pos trivial, if_pos trivial]
    rfl
end Go.Proofs.Ythpnhmefjdfhfaa.Tk
