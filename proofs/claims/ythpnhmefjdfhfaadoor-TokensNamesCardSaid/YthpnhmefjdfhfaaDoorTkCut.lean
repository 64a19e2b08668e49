/- The printed Cut comes to lex. -/
import Derived.Test.YthpnhmefjdfhfaaDoorTkBridge2
namespace Go.Proofs.YthpnhmefjdfhfaaDoor.Tk
open Go.RowKit Go.Proofs.YthpnhmefjdfhfaaDoor.PALL Go.Proofs.YthpnhmefjdfhfaaDoorW.PrintWords Go.Proofs.YthpnhmefjdfhfaaDoorW.PrintLast

def toS (t : T) : S37 := ⟨(t.kind : Int), ⟨t.text.toArray⟩, (t.line : Int), (t.col : Int)⟩
def render (out : List S37) : R → List S37 × Int × Int × Int
  | .err l c _ => ([], 120, (l : Int), (c : Int))
  | .ok ts => (out ++ ts.map toS, 0, 0, 0)
theorem render_cons (out : List S37) (t : T) (x : R) : render out (x.cons t) = render (out ++ [toS t]) x := by
  cases x with
  | err => rfl
  | ok ts => simp [R.cons, render]
theorem col_eq (p b : Nat) (hb : b ≤ p) (hp : p ≤ 65536) : wrap64 (wrap64 ((p : Int) - (b : Int)) + 1) = ((p - b + 1 : Nat) : Int) := by
  rw [wrap_sub p b hb (by omega), wrap_add1 (p - b) (by omega)]
theorem drop_cons {s : ByteArray} {p : Nat} {c : UInt8} {r : List UInt8} (h : (L s).drop p = c :: r) : p < s.size ∧ (L s).drop (p + 1) = r ∧ bt s (p : Int) = c.toNat ∧ s.size - p = r.length + 1 := by
  have hl := L_len s
  have hlen := congrArg List.length h
  rw [List.length_drop, hl, List.length_cons] at hlen
  refine ⟨by omega, by rw [← List.drop_drop, h]; rfl, bt_drop s p c r h, hlen⟩
theorem drop_nil {s : ByteArray} {p : Nat} (h : (L s).drop p = []) : s.size ≤ p := by
  have hl := L_len s
  have hlen := congrArg List.length h
  rw [List.length_drop, hl] at hlen
  simp at hlen; omega
/-- over a remark -/
theorem rem_loop (s : ByteArray) (hs : s.size ≤ 65536) (out : List S37) (l b : Int) : ∀ (m p k : Nat), p ≤ s.size → run noNl ((L s).drop p) = m → tokens_Cut.l1 (k + m + 1) s out (p : Int) l b = tokens_Cut.l0 k s out ((p + m : Nat) : Int) l b
  | 0, p, k, hp, hm => by
    rw [tokens_Cut.l1]
    cases hd' : (L s).drop p with
    | nil =>
      have := drop_nil hd'
      rw [if_neg (by omega)]; rfl
    | cons c r =>
      obtain ⟨h1, _, h3, _⟩ := drop_cons hd'
      rw [hd', run_cons] at hm
      have hc : c.toNat = 10 := by
        by_cases h : noNl c = true
        · rw [if_pos h] at hm; omega
        · simpa [noNl] using h
      rw [if_pos (by omega), if_pos (by omega), h3, if_pos (by omega)]; rfl
  | m + 1, p, k, hp, hm => by
    rw [show k + (m + 1) + 1 = (k + m + 1) + 1 from by omega]
    rw [tokens_Cut.l1]
    cases hd' : (L s).drop p with
    | nil => rw [hd', run_nil] at hm; omega
    | cons c r =>
      obtain ⟨h1, h2, h3, _⟩ := drop_cons hd'
      rw [hd', run_cons] at hm
      have hc : ¬ c.toNat = 10 := by
        by_cases h : noNl c = true
        · simpa [noNl] using h
        · rw [if_neg h] at hm; omega
      have hm' : run noNl ((L s).drop (p + 1)) = m := by
        rw [h2]; rw [if_pos (by simpa [noNl] using hc)] at hm; omega
      rw [if_pos (by omega), if_pos (by omega), h3, if_neg (by omega), wrap_add1 p (by omega), rem_loop s hs out l b m (p + 1) k (by omega) hm']
      congr 1; omega
theorem blank_if {α : Type} (c : Nat) (hc : c < 256) (x : Bool → α) : (if (c : Int) = 32 then x ((c : Int) == 32) else if (c : Int) = 9 then x ((c : Int) == 9) else x ((c : Int) == 13)) = x (decide (c = 32) || decide (c = 9) || decide (c = 13)) := by
  by_cases h1 : c = 32
  · subst h1; rfl
  · rw [if_neg (by omega)]
    by_cases h2 : c = 9
    · subst h2; rfl
    · rw [if_neg (by omega)]
      congr 1
      by_cases h3 : c = 13
      · subst h3; rfl
      · have : ((c : Int) == 13) = false := beq_eq_false_iff_ne.2 (by omega)
        rw [this]; simp [h1, h2, h3]
theorem stuck_head (k : Nat) (l : List UInt8) : stuck k l = (decide (k ≠ 5) && (decide (l ≠ []) && decide (run af (l.take 1) > 0))) := by
  cases l with
  | nil => simp [stuck]
  | cons c r => simp [stuck, run_cons, run_nil]; cases af c <;> simp
theorem cut_loop (s : ByteArray) (hs : s.size ≤ 65536) : ∀ (n p l b k : Nat) (out : List S37), p ≤ s.size → s.size - p < n → b ≤ p → l ≤ p + 1 → out.length ≤ p → 4 * (s.size - p) + 15 ≤ k →
    tokens_Cut.l0 k s out (p : Int) (l : Int) (b : Int) = some (render out (lex n p l b ((L s).drop p)))
  | 0, _, _, _, _, _, _, h, _, _, _, _ => absurd h (by omega)
  | n + 1, p, l, b, 0, _, _, _, _, _, _, h => absurd h (by omega)
  | n + 1, p, l, b, 1, _, _, _, _, _, _, h => absurd h (by omega)
  | n + 1, p, l, b, k + 2, out, hp, hn, hb, hl, ho, hk => by
    have hSm : Sm s := by unfold Sm; omega
    have hll := L_len s
    cases hd' : (L s).drop p with
    | nil =>
      have := drop_nil hd'
      rw [tokens_Cut.l0]
      rw [if_neg (by omega), if_pos (by omega), col_eq p b hb (by omega), lex_nil]
      simp [render, toS]
    | cons c r =>
      obtain ⟨h1, h2, h3, h4⟩ := drop_cons hd'
      have hc256 := c.toNat_lt
      rcases solid_or c with hc | hc | hc | hc
      · rw [lex_nl _ _ _ _ _ _ hc]
        rw [tokens_Cut.l0]
        rw [if_pos (by omega), if_pos (by omega), h3, if_pos (by omega), wrap_add1 p (by omega), wrap_add1 l (by omega), cut_loop s hs n (p + 1) (l + 1) (p + 1) (k + 1) out (by omega) (by omega) (by omega) (by omega) (by omega) (by omega), h2]
      · rw [lex_bl _ _ _ _ _ _ hc]
        have hn10 : ¬ c.toNat = 10 := by simp [blank] at hc; omega
        rw [tokens_Cut.l0]
        rw [if_pos (by omega), if_pos (by omega), h3, if_neg (by omega), blank_if c.toNat hc256 (fun x => tokens_Cut.j1 (k + 1) s out (p : Int) (l : Int) (b : Int) (c.toNat : Int) x), show (decide (c.toNat = 32) || decide (c.toNat = 9) || decide (c.toNat = 13)) = blank c from rfl, hc]
        rw [tokens_Cut.j1]
        rw [if_pos rfl, wrap_add1 p (by omega), cut_loop s hs n (p + 1) l b k out (by omega) (by omega) (by omega) (by omega) (by omega) (by omega), h2]
      · rw [lex_rem _ _ _ _ _ _ hc]
        have hnb : blank c = false := by simp [blank]; omega
        rw [tokens_Cut.l0]
        rw [if_pos (by omega), if_pos (by omega), h3, if_neg (by omega), blank_if c.toNat hc256 (fun x => tokens_Cut.j1 (k + 1) s out (p : Int) (l : Int) (b : Int) (c.toNat : Int) x), show (decide (c.toNat = 32) || decide (c.toNat = 9) || decide (c.toNat = 13)) = blank c from rfl, hnb]
        rw [tokens_Cut.j1]
        rw [if_neg Bool.false_ne_true, if_pos (by omega)]
        obtain ⟨m, hm⟩ : ∃ m, run noNl ((L s).drop p) = m := ⟨_, rfl⟩
        have hpos := rem_pos c r hc
        have hle := run_le noNl (c :: r)
        rw [← hd', hm] at hpos hle
        rw [List.length_drop, hll] at hle
        obtain ⟨k', rfl⟩ : ∃ k', k = k' + m + 1 := ⟨k - m - 1, by omega⟩
        rw [rem_loop s hs out (l : Int) (b : Int) m p k' hp hm, cut_loop s hs n (p + m) l b k' out (by omega) (by omega) (by omega) (by omega) (by omega) (by omega), ← hd', hm, List.drop_drop]
      · have hn10 := hc.1
        have hn35 := hc.2.2
        rw [tokens_Cut.l0]
        rw [if_pos (by omega), if_pos (by omega), h3, if_neg (by omega), blank_if c.toNat hc256 (fun x => tokens_Cut.j1 (k + 1) s out (p : Int) (l : Int) (b : Int) (c.toNat : Int) x), show (decide (c.toNat = 32) || decide (c.toNat = 9) || decide (c.toNat = 13)) = blank c from rfl, hc.2.1]
        rw [tokens_Cut.j1]
        have hxt : L (s.extract p s.size) = c :: r := by rw [L_from]; exact hd'
        have hxs : (s.extract p s.size).size = s.size - p := size_from s p
        rw [if_neg Bool.false_ne_true, if_neg (by omega), if_pos (by omega), if_pos (by omega), toNat_cast, next_some _ (hSm.ext _ _) (by rw [hxt]; simp) k (by rw [hxs]; omega), Option.bind_some, hxt]
        obtain ⟨⟨K, m⟩, hK⟩ : ∃ x, next (c :: r) = x := ⟨_, rfl⟩
        have hle := next_le (c :: r)
        rw [hK] at hle ⊢
        simp only [List.length_cons] at hle ⊢
        rw [wrap_add p m (by omega), if_pos (by omega), if_pos (by omega), col_eq p b hb (by omega)]
        have hrest : L (s.extract (p + m) s.size) = (c :: r).drop m := by rw [L_from, ← List.drop_drop, hd']
        have hrs : (s.extract (p + m) s.size).size = s.size - (p + m) := size_from s (p + m)
        by_cases hm : m = 0
        · rw [if_pos (by omega), lex_err _ _ _ _ _ _ hc (by rw [hK]; exact .inl hm)]; rfl
        · rw [if_neg (by omega)]
          have hgo : stuck K ((c :: r).drop m) = false → tokens_Cut.l0 k s (out ++ [(⟨(K : Int), s.extract p (p + m), (l : Int), ((p - b + 1 : Nat) : Int)⟩ : S37)]) ((p + m : Nat) : Int) (l : Int) (b : Int) = some (render out (lex (n + 1) p l b (c :: r))) := by
            intro hst
            rw [lex_tok _ _ _ _ _ _ hc (by rw [hK]; exact hm) (by rw [hK]; exact hst), hK, render_cons]
            have htx : s.extract p (p + m) = ⟨((c :: r).take m).toArray⟩ := by
              apply L_inj
              rw [L_ext, hd', show p + m - p = m from by omega]
            rw [cut_loop s hs n (p + m) l b k _ (by omega) (by omega) (by omega) (by omega) (by simp; omega) (by omega), ← List.drop_drop, hd', htx]
            rfl
          have hno : stuck K ((c :: r).drop m) = true → some (([] : List S37), (120 : Int), (l : Int), ((p - b + 1 : Nat) : Int)) = some (render out (lex (n + 1) p l b (c :: r))) := by
            intro hst
            rw [lex_err _ _ _ _ _ _ hc (by rw [hK]; exact .inr hst)]; rfl
          simp only [toNat_cast]
          rw [stuck_head] at hgo hno
          by_cases h5 : K = 5
          · rw [if_pos (by omega), if_pos (by omega), if_pos (by omega)]
            exact hgo (by simp [h5])
          · rw [if_neg (by omega), Lib.toList_data]
            by_cases hnil : (c :: r).drop m = []
            · rw [if_pos (hrest.trans hnil), if_pos (by omega), if_pos (by omega)]
              exact hgo (by simp [hnil])
            · have hpos : 1 ≤ s.size - (p + m) := by
                rw [← hrs, ← L_len, hrest]
                cases h : (c :: r).drop m with
                | nil => exact absurd h hnil
                | cons => simp
              rw [if_neg (by intro q; exact hnil (hrest.symm.trans q)), if_pos (by omega), if_pos (by rw [hrs]; omega), run_af _ ((hSm.ext _ _).ext _ _), Option.bind_some, L_to, hrest]
              by_cases ht : run af (((c :: r).drop m).take 1) > 0
              · rw [if_pos (by omega)]
                exact hno (by simp [h5, hnil]; omega)
              · rw [if_neg (by omega), if_pos (by omega), if_pos (by omega)]
                exact hgo (by simp [hnil]; omega)
theorem cut_some (s : ByteArray) (hs : s.size ≤ 65536) (k : Nat) (hk : 4 * s.size + 15 ≤ k) : tokens_Cut.f k s = some (render [] (lex (s.size + 1) 0 1 0 (L s))) := by
  unfold tokens_Cut.f
  rw [if_neg (by omega)]
  have := cut_loop s hs (s.size + 1) 0 1 0 k [] (by omega) (by omega) (by omega) (by omega) (by simp) (by omega)
  rw [List.drop_zero] at this
  exact this
theorem cut_long (s : ByteArray) (hs : 65536 < s.size) (k : Nat) : tokens_Cut.f k s = some ([], 3, 1, 1) := by
  unfold tokens_Cut.f
  rw [if_pos (by omega)]
end Go.Proofs.YthpnhmefjdfhfaaDoor.Tk
