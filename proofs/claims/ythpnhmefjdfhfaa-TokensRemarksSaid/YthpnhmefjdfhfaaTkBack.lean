/- The stage's theorem of layer 12 over the printed functions: the tokens' texts with blanks between them are cut into the same kinds and texts. -/
import Derived.Test.YthpnhmefjdfhfaaTkCut
import Derived.Test.YthpnhmefjdfhfaaPALLx6
namespace Go.Proofs.Ythpnhmefjdfhfaa.Tk
open Go.RowKit Go.Proofs.Ythpnhmefjdfhfaa.PALL Go.Proofs.YthpnhmefjdfhfaaW.PrintWords Go.Proofs.YthpnhmefjdfhfaaW.PrintLast

theorem awake_some (k : Nat) (hk : 200 ≤ k) : tollbooklaw12_awake.f k = some true := by
  unfold tollbooklaw12_awake.f
  rw [cut_some _ (by decide) k (by simp only [show (⟨#[114, 97, 116, 101, 32, 102, 111, 111, 100, 46, 98, 114, 101, 97, 100, 32, 55, 46, 53, 37]⟩ : ByteArray).size = 20 from rfl]; omega), Option.bind_some, cut_some _ (by decide) k (by simp only [show (⟨#[97, 32, 66]⟩ : ByteArray).size = 3 from rfl]; omega), Option.bind_some]
  decide +kernel

/-! ### joined -/
def ints (l : List UInt8) : List Int := l.map fun b => (b.toNat : Int)
theorem str_ints (l : List UInt8) : strOfNums (ints l) = ⟨l.toArray⟩ := by
  unfold strOfNums ints
  congr 2
  rw [List.map_map]
  conv => rhs; rw [← List.map_id l]
  apply List.map_congr_left
  intro b _
  simp
theorem bytesOf_toS (t : T) : bytesOf (toS t).f1 = ints t.text := by simp [bytesOf, toS, ints]
/-- the texts' lengths, and one more each -/
def total : List T → Nat
  | [] => 0
  | t :: ts => t.text.length + 1 + total ts
theorem total_append (a b : List T) : total (a ++ b) = total a + total b := by
  induction a with
  | nil => simp [total]
  | cons t a ih => simp only [List.cons_append, total]; rw [ih]; omega
theorem len_total (ts : List T) : ts.length ≤ total ts := by
  induction ts with
  | nil => simp [total]
  | cons t ts ih => simp only [List.length_cons, total]; omega
theorem blanks_len (ts : List T) : (blanks ts).length = total ts := by
  induction ts with
  | nil => rfl
  | cons t ts ih => simp only [blanks, total, List.length_cons, List.length_append]; rw [ih]; omega
theorem joined_len (ts : List T) : (joined ts).length ≤ total ts := by
  cases ts with
  | nil => simp [joined]
  | cons t ts => simp only [joined, total, List.length_append, blanks_len]; omega
theorem rd_toS (ts : List T) (i : Nat) (t : T) (h : ts[i]? = some t) : rd_T34 (ts.map toS) (i : Int) = toS t := by
  unfold rd_T34
  rw [toNat_cast, List.getD_eq_getElem?_getD, List.getElem?_map, h]; rfl
theorem joined_sum (ts : List T) (ht : total ts ≤ 1000000) (rest : Nat) : ∀ (m i k a : Nat), i + m = ts.length → a + total (ts.drop i) ≤ 1000000 →
    tollbooklaw12_joined.l0 (k + m + 1) (ts.map toS) (a : Int) (i : Int) = tollbooklaw12_joined.l0 (k + 1) (ts.map toS) ((a + total (ts.drop i) : Nat) : Int) (ts.length : Int)
  | 0, i, k, a, hi, _ => by
    obtain rfl : i = ts.length := by omega
    rw [List.drop_length]; rfl
  | m + 1, i, k, a, hi, ha => by
    have hlt : i < ts.length := by omega
    have hlt' := len_total ts
    rw [List.drop_eq_getElem_cons hlt] at ha
    simp only [total] at ha
    rw [show k + (m + 1) + 1 = (k + m + 1) + 1 from by omega, tollbooklaw12_joined.l0, List.length_map, if_pos (by omega), if_pos (by omega), rd_toS ts i ts[i] (List.getElem?_eq_getElem hlt)]
    have hsz : ((toS ts[i]).f1.size : Int) = ((ts[i].text.length : Nat) : Int) := rfl
    rw [hsz, wrap_add a ts[i].text.length (by omega), wrap_add1 (a + ts[i].text.length) (by omega), wrap_add1 i (by omega), joined_sum ts ht rest m (i + 1) k (a + ts[i].text.length + 1) (by omega) (by omega), List.drop_eq_getElem_cons hlt]
    simp only [total]
    congr 1; omega
theorem joined_put (ts : List T) (ht : total ts ≤ 1000000) : ∀ (m i k : Nat) (x : List UInt8), i + m = ts.length → 0 < i → x.length + total (ts.drop i) ≤ 1000000 →
    tollbooklaw12_joined.l1 (k + m + 1) (ts.map toS) (ints x) (i : Int) = some ⟨(x ++ blanks (ts.drop i)).toArray⟩
  | 0, i, k, x, hi, _, _ => by
    obtain rfl : i = ts.length := by omega
    rw [tollbooklaw12_joined.l1, List.length_map, if_neg (by omega), List.drop_length, str_ints]; simp [blanks]
  | m + 1, i, k, x, hi, h0, ha => by
    have hlt : i < ts.length := by omega
    have hil : (ints x).length = x.length := by simp [ints]
    have hlt' := len_total ts
    rw [List.drop_eq_getElem_cons hlt] at ha
    simp only [total] at ha
    rw [show k + (m + 1) + 1 = (k + m + 1) + 1 from by omega, tollbooklaw12_joined.l1, List.length_map, if_pos (by omega), if_pos (by omega), if_pos (by omega), Option.bind_some, if_pos (by omega), rd_toS ts i ts[i] (List.getElem?_eq_getElem hlt)]
    have hsz : (toS ts[i]).f1.size = ts[i].text.length := rfl
    rw [if_pos (by rw [hsz, List.length_append, hil]; simp; omega), bytesOf_toS, show ints x ++ [32] ++ ints ts[i].text = ints (x ++ 32 :: ts[i].text) from by simp [ints], wrap_add1 i (by omega), joined_put ts ht m (i + 1) k _ (by omega) (by omega) (by simp; omega), List.drop_eq_getElem_cons hlt]
    simp [blanks]
theorem joined_some (ts : List T) (ht : total ts ≤ 1000000) (k : Nat) (hk : 2 * ts.length + 3 ≤ k) : tollbooklaw12_joined.f k (ts.map toS) = some ⟨(joined ts).toArray⟩ := by
  have hlen := len_total ts
  unfold tollbooklaw12_joined.f
  obtain ⟨k, rfl⟩ : ∃ k', k = k' + ts.length + 1 := ⟨k - ts.length - 1, by omega⟩
  have h0 := joined_sum ts ht 0 ts.length 0 k 0 (by omega) (by simpa using ht)
  rw [List.drop_zero, Nat.zero_add] at h0
  rw [show ((0 : Nat) : Int) = 0 from rfl] at h0
  rw [h0, tollbooklaw12_joined.l0, List.length_map, if_neg (by omega), if_pos (by omega), if_pos (by rw [toNat_cast]; omega)]
  cases ts with
  | nil =>
    obtain ⟨k, rfl⟩ : ∃ k', k = k' + 1 := ⟨k - 1, by simp at hk; omega⟩
    rw [tollbooklaw12_joined.l1, List.map_nil, List.length_nil, if_neg (by omega)]; rfl
  | cons t ts =>
    simp only [List.length_cons] at hk hlen
    simp only [total] at ht hlen
    obtain ⟨k, rfl⟩ : ∃ k', k = (k' + ts.length + 1) + 1 := ⟨k - ts.length - 2, by omega⟩
    have hsz : (toS t).f1.size = t.text.length := rfl
    rw [tollbooklaw12_joined.l1, List.length_map, List.length_cons, if_pos (by omega), if_neg (by omega), if_pos (by omega)]
    rw [show rd_T34 ((t :: ts).map toS) 0 = toS t from rfl]
    rw [if_pos (by rw [hsz]; simp; omega), bytesOf_toS, List.nil_append, show wrap64 ((0 : Int) + 1) = ((1 : Nat) : Int) from by unfold wrap64; omega]
    have := joined_put (t :: ts) (by simp only [total]; omega) ts.length 1 k t.text (by simp; omega) (by omega) (by simp; omega)
    rw [this]; rfl

/-! ### the tokens of a text, in all, are not longer than it -/
theorem lex_total : ∀ (k p l b : Nat) (x : List UInt8) (ts : List T), x.length < k → lex k p l b x = .ok ts → total ts ≤ 2 * x.length + 1 ∧ ts.length ≤ x.length + 1
  | 0, _, _, _, _, _, h, _ => absurd h (by omega)
  | k + 1, p, l, b, [], ts, _, h => by
    rw [lex_nil] at h; cases h
    simp [total]
  | k + 1, p, l, b, c :: r, ts, hk, h => by
    simp only [List.length_cons] at hk ⊢
    rcases solid_or c with hc | hc | hc | hc
    · rw [lex_nl _ _ _ _ _ _ hc] at h; have := lex_total k _ _ _ _ _ (by omega) h; omega
    · rw [lex_bl _ _ _ _ _ _ hc] at h; have := lex_total k _ _ _ _ _ (by omega) h; omega
    · rw [lex_rem _ _ _ _ _ _ hc] at h; have hpos := rem_pos c r hc; have := lex_total k _ _ _ _ _ (by simp; omega) h; rw [List.length_drop, List.length_cons] at this; omega
    · rcases tok_or (c :: r) with ht | ⟨h1, h2⟩
      · rw [lex_err _ _ _ _ _ _ hc ht] at h; cases h
      · rw [lex_tok _ _ _ _ _ _ hc h1 h2] at h
        obtain ⟨us, hu, rfl⟩ := cons_ok h
        have := lex_total k _ _ _ _ _ (by simp; omega) hu
        have hle := next_le (c :: r)
        rw [List.length_drop, List.length_cons] at this
        simp only [total, List.length_take, List.length_cons] at hle ⊢
        omega
theorem lex_len_pos : ∀ (k p l b : Nat) (x : List UInt8) (ts : List T), x.length < k → lex k p l b x = .ok ts → ts ≠ [] := by
  intro k p l b x ts hk h
  obtain ⟨us, e, rfl, _⟩ := lex_shape k p l b x ts hk h
  simp

/-! ### the law -/
theorem no_spot (x : List S34) : (!((x, (0 : Int), (0 : Int), (0 : Int)).2.1 == 0) || (!((x, (0 : Int), (0 : Int), (0 : Int)).2.2.1 == 0) || (!((x, (0 : Int), (0 : Int), (0 : Int)).2.2.2 == 0)))) = false := rfl
theorem render_ok (ts : List T) : render [] (.ok ts) = (ts.map toS, 0, 0, 0) := rfl
theorem same_loop (ts us : List T) (ha : alike ts us) (hl : ∀ t ∈ us, t.line = 1) (hsm : ts.length ≤ 1000000) : ∀ (m i k : Nat), i + m = ts.length → tollbooklaw12_TokensBack.l0 (k + m + 1) (ts.map toS) (us.map toS) (i : Int) = some true
  | 0, i, k, hi => by
    obtain rfl : i = ts.length := by omega
    rw [tollbooklaw12_TokensBack.l0, List.length_map, if_neg (by omega)]
  | m + 1, i, k, hi => by
    have hlen : us.length = ts.length := by have := congrArg List.length ha; simpa using this
    have h1 : i < ts.length := by omega
    have h2 : i < us.length := by omega
    have he : (us[i].kind, us[i].text) = (ts[i].kind, ts[i].text) := by
      have := congrArg (fun l => l[i]?) ha
      simp only [List.getElem?_map, List.getElem?_eq_getElem h1, List.getElem?_eq_getElem h2, Option.map_some] at this
      exact Option.some.inj this
    have hk1 : us[i].kind = ts[i].kind := congrArg Prod.fst he
    have hk2 : us[i].text = ts[i].text := congrArg Prod.snd he
    have hk3 : us[i].line = 1 := hl _ (List.getElem_mem h2)
    rw [show k + (m + 1) + 1 = (k + m + 1) + 1 from by omega, tollbooklaw12_TokensBack.l0, List.length_map, List.length_map, if_pos (by omega), if_pos (by omega), if_pos (by omega),
      rd_toS ts i ts[i] (List.getElem?_eq_getElem h1), rd_toS us i us[i] (List.getElem?_eq_getElem h2)]
    rw [if_pos (show (toS us[i]).f0 = (toS ts[i]).f0 by simp [toS, hk1]), if_pos (show (toS us[i]).f1.toList = (toS ts[i]).f1.toList by simp [toS, hk2]), if_pos (show (toS us[i]).f2 = 1 by simp [toS, hk3]), wrap_add1 i (by omega)]
    exact same_loop ts us ha hl hsm m (i + 1) k (by omega)
theorem TokensBack_pure : tollbooklaw12_TokensBack.Pure := by
  intro s _
  by_cases hs : s.size ≤ 65536
  · cases hx : lex (s.size + 1) 0 1 0 (L s) with
    | err l c p =>
      refine ⟨4 * s.size + 215, ?_⟩
      unfold tollbooklaw12_TokensBack.f
      rw [awake_some _ (by omega), Option.bind_some, if_pos rfl, cut_some s hs _ (by omega), Option.bind_some, hx]
      rfl
    | ok ts =>
      have hlt : (L s).length < s.size + 1 := by rw [L_len]; omega
      have htot := lex_total _ _ _ _ _ _ hlt hx
      rw [L_len] at htot
      have hjl := joined_len ts
      have hJL : L (⟨(joined ts).toArray⟩ : ByteArray) = joined ts := by simp [L]
      have hJS : (⟨(joined ts).toArray⟩ : ByteArray).size = (joined ts).length := by rw [← L_len, hJL]
      obtain ⟨us, hu, ha, hl1⟩ := lex_joined _ _ _ _ _ _ hlt hx ((joined ts).length + 1) 0 1 0 (by omega)
      refine ⟨600000, ?_⟩
      unfold tollbooklaw12_TokensBack.f
      rw [awake_some _ (by omega), Option.bind_some, if_pos rfl, cut_some s hs _ (by omega), Option.bind_some, hx]
      rw [render_ok, no_spot, if_neg Bool.false_ne_true, joined_some ts (by omega) _ (by omega), Option.bind_some]
      by_cases hj : ((⟨(joined ts).toArray⟩ : ByteArray).size : Int) > 65536
      · rw [if_pos hj]
      · rw [if_neg hj, cut_some _ (by omega) _ (by omega), Option.bind_some, hJL, hJS, hu]
        rw [render_ok, no_spot, if_neg Bool.false_ne_true]
        have hlen : us.length = ts.length := by have := congrArg List.length ha; simpa using this
        have hb : (((us.map toS).length : Int) != ((ts.map toS).length : Int)) = false := by simp [hlen]
        rw [hb, show (600000 : Nat) = 599999 + 1 from rfl, tollbooklaw12_TokensBack.j0, if_neg Bool.false_ne_true, show (599999 : Nat) = (599998 - ts.length) + ts.length + 1 from by omega]
        exact same_loop ts us ha hl1 (by omega) ts.length 0 _ (by omega)
  · refine ⟨1000, ?_⟩
    unfold tollbooklaw12_TokensBack.f
    rw [awake_some _ (by omega), Option.bind_some, if_pos rfl, cut_long s (by omega), Option.bind_some]
    rfl
end Go.Proofs.Ythpnhmefjdfhfaa.Tk
