/- What is refused is refused alike, whatever stands behind the line of its place: over the printed functions. -/
import Derived.Test.YthpnhmefjdfhfaaTkBack
import Derived.Test.YthpnhmefjdfhfaaPALLx9
namespace Go.Proofs.Ythpnhmefjdfhfaa.Tk
open Go.RowKit Go.Proofs.Ythpnhmefjdfhfaa.PALL Go.Proofs.YthpnhmefjdfhfaaW.PrintWords Go.Proofs.YthpnhmefjdfhfaaW.PrintLast

/-- where the lines behind the first one begin -/
def nlp : Nat → List UInt8 → List Nat
  | _, [] => []
  | i, c :: r => if c.toNat = 10 then (i + 1) :: nlp (i + 1) r else nlp (i + 1) r
def startsL (x : List UInt8) : List Nat := 0 :: nlp 0 x
theorem nlp_len : ∀ (i : Nat) (x : List UInt8), (nlp i x).length = nls x
  | _, [] => rfl
  | i, c :: r => by
    unfold nlp
    rw [nls_cons]
    by_cases h : c.toNat = 10
    · rw [if_pos h, if_pos h, List.length_cons, nlp_len (i + 1) r]
    · rw [if_neg h, if_neg h, nlp_len (i + 1) r]; rfl
theorem starts_len (x : List UInt8) : (startsL x).length = nls x + 1 := by simp [startsL, nlp_len]
theorem nl_eq {c : UInt8} (h : c.toNat = 10) : c = 10 := UInt8.toNat_inj.1 h
theorem nlp_get : ∀ (x : List UInt8) (i j : Nat), j < nls x → ∃ pre y, x = pre ++ 10 :: y ∧ nls pre = j ∧ (nlp i x)[j]? = some (i + pre.length + 1)
  | [], _, _, h => by simp [nls] at h
  | c :: r, i, j, h => by
    rw [nls_cons] at h
    unfold nlp
    by_cases hc : c.toNat = 10
    · rw [if_pos hc] at h ⊢
      cases j with
      | zero => exact ⟨[], r, by rw [nl_eq hc]; rfl, rfl, rfl⟩
      | succ j =>
        obtain ⟨pre, y, h1, h2, h3⟩ := nlp_get r (i + 1) j (by omega)
        refine ⟨c :: pre, y, by rw [h1]; rfl, by rw [nls_cons, if_pos hc, h2], ?_⟩
        rw [List.getElem?_cons_succ, h3]; simp; omega
    · rw [if_neg hc] at h ⊢
      obtain ⟨pre, y, h1, h2, h3⟩ := nlp_get r (i + 1) j (by omega)
      refine ⟨c :: pre, y, by rw [h1]; rfl, by rw [nls_cons, if_neg hc, h2]; rfl, ?_⟩
      rw [h3]; simp; omega
def nats (l : List Nat) : List Int := l.map fun (n : Nat) => (n : Int)
theorem starts_loop (s : ByteArray) (hs : s.size ≤ 65536) : ∀ (m i k : Nat) (out : List Nat), i + m = s.size → out.length ≤ i + 1 → tollbooklaw12_starts.l0 (k + m + 1) s (nats out) (i : Int) = some (nats (out ++ nlp i ((L s).drop i)))
  | 0, i, k, out, hi, _ => by
    obtain rfl : i = s.size := by omega
    rw [tollbooklaw12_starts.l0, if_neg (by omega), List.drop_of_length_le (by rw [L_len]; exact Nat.le_refl _)]
    simp [nlp]
  | m + 1, i, k, out, hi, ho => by
    have hlt : i < (L s).length := by rw [L_len]; omega
    have hd' := List.drop_eq_getElem_cons hlt
    obtain ⟨h1, h2, h3, _⟩ := drop_cons hd'
    have hol : (nats out).length = out.length := by simp [nats]
    rw [show k + (m + 1) + 1 = (k + m + 1) + 1 from by omega, tollbooklaw12_starts.l0, if_pos (by omega), if_pos (by omega), h3, hd']
    unfold nlp
    by_cases hc : (L s)[i].toNat = 10
    · rw [if_pos (by omega), if_pos (by omega), wrap_add1 i (by omega), show nats out ++ [((i + 1 : Nat) : Int)] = nats (out ++ [i + 1]) from by simp [nats], starts_loop s hs m (i + 1) k _ (by omega) (by simp; omega), if_pos hc, h2]
      simp
    · rw [if_neg (by omega), wrap_add1 i (by omega), starts_loop s hs m (i + 1) k _ (by omega) (by omega), if_neg hc, h2]
theorem starts_some (s : ByteArray) (hs : s.size ≤ 65536) (k : Nat) (hk : s.size + 1 ≤ k) : tollbooklaw12_starts.f k s = some (nats (startsL (L s))) := by
  unfold tollbooklaw12_starts.f
  obtain ⟨k, rfl⟩ : ∃ k', k = k' + s.size + 1 := ⟨k - s.size - 1, by omega⟩
  have := starts_loop s hs s.size 0 k [0] (by omega) (by simp)
  rw [List.drop_zero] at this
  exact this
theorem lex_line_le : ∀ (k p l b : Nat) (x : List UInt8) (m c q : Nat), x.length < k → lex k p l b x = .err m c q → m ≤ l + nls x
  | 0, _, _, _, _, _, _, _, hk, _ => absurd hk (by omega)
  | k + 1, p, l, b, [], m, c, q, _, h => by rw [lex_nil] at h; cases h
  | k + 1, p, l, b, d :: r, m, c, q, hk, h => by
    simp only [List.length_cons] at hk
    have hdrop : ∀ n, nls ((d :: r).drop n) ≤ nls (d :: r) := fun n => by have := nls_take_drop (d :: r) n; omega
    rcases solid_or d with hc | hc | hc | hc
    · rw [lex_nl _ _ _ _ _ _ hc] at h; have := lex_line_le k _ _ _ _ _ _ _ (by omega) h; rw [nls_cons, if_pos hc]; omega
    · rw [lex_bl _ _ _ _ _ _ hc] at h; have := lex_line_le k _ _ _ _ _ _ _ (by omega) h; rw [nls_cons]; omega
    · rw [lex_rem _ _ _ _ _ _ hc] at h
      have hpos := rem_pos d r hc
      have := lex_line_le k _ _ _ _ _ _ _ (by simp; omega) h
      have := hdrop (run noNl (d :: r)); omega
    · rcases tok_or (d :: r) with ht | ⟨h1, h2⟩
      · rw [lex_err _ _ _ _ _ _ hc ht] at h; cases h; omega
      · rw [lex_tok _ _ _ _ _ _ hc h1 h2] at h
        have := lex_line_le k _ _ _ _ _ _ _ (by simp; omega) (cons_err h)
        have := hdrop (next (d :: r)).2; omega
/-- The error stands in the beginning up to its line's end. -/
theorem err_head (pre y z : List UInt8) (l c p k k' : Nat) (hk : (pre ++ 10 :: y).length < k) (hk' : (pre ++ 10 :: z).length < k') (h : lex k 0 1 0 (pre ++ 10 :: y) = .err l c p) (hl : l ≤ nls pre + 1) : lex k' 0 1 0 (pre ++ 10 :: z) = .err l c p := by
  simp only [List.length_append, List.length_cons] at hk hk'
  have hy := lex_behind (k + k') 0 1 0 pre y (by simp; omega)
  have hz := lex_behind (k + k') 0 1 0 pre z (by simp; omega)
  rw [lex_fuel k (k + k') _ _ _ _ (by simp; omega) (by simp; omega)] at h
  rw [lex_fuel k' (k + k') _ _ _ _ (by simp; omega) (by simp; omega)]
  cases hp : lex (k + k') 0 1 0 pre with
  | err a b d =>
    have h1 := hy.1 a b d hp
    rw [h] at h1
    injection h1 with e1 e2 e3
    subst e1; subst e2; subst e3
    exact hz.1 l c p hp
  | ok ts =>
    have := hy.2 ts hp l c p h
    omega
theorem err_all (x z : List UInt8) (l c p k k' : Nat) (hk : x.length < k) (hk' : (x ++ 10 :: z).length < k') (h : lex k 0 1 0 x = .err l c p) : lex k' 0 1 0 (x ++ 10 :: z) = .err l c p := by
  rw [lex_fuel k k' _ _ _ _ hk (by simp at hk'; omega)] at h
  exact (lex_behind k' 0 1 0 x z hk').1 l c p h
theorem render_err (l c p : Nat) : render [] (.err l c p) = ([], 120, (l : Int), (c : Int)) := rfl
theorem refl_int (a b : Int) : (((120 : Int) == 120) && ((a == a) && (b == b))) = true := by simp
theorem TokensRefused_pure : tollbooklaw12_TokensRefused.Pure := by
  intro s t _ _
  by_cases hs : s.size ≤ 65536
  · have hls := L_len s
    have hlt : (L s).length < s.size + 1 := by omega
    cases hx : lex (s.size + 1) 0 1 0 (L s) with
    | ok ts =>
      refine ⟨600000, ?_⟩
      unfold tollbooklaw12_TokensRefused.f
      rw [awake_some _ (by omega), Option.bind_some, if_pos rfl, cut_some s hs _ (by omega), Option.bind_some, hx, render_ok]
      rfl
    | err l c p =>
      have hl1 := lex_line _ _ _ _ _ _ _ _ hx
      have hl2 := lex_line_le _ _ _ _ _ _ _ _ hlt hx
      have hsl := starts_len (L s)
      have hnl : (nats (startsL (L s))).length = nls (L s) + 1 := by simp [nats, hsl]
      have h10 : ∀ (u v : ByteArray), L ((u ++ (⟨#[10]⟩ : ByteArray)) ++ v) = L u ++ 10 :: L v := fun u v => by simp [L]
      refine ⟨1000000, ?_⟩
      unfold tollbooklaw12_TokensRefused.f
      rw [awake_some _ (by omega), Option.bind_some, if_pos rfl, cut_some s hs _ (by omega), Option.bind_some, hx, render_err]
      simp only
      rw [if_pos trivial, starts_some s hs _ (by omega), Option.bind_some, if_neg (by omega), hnl]
      have hdf : decide ((l : Int) > ((nls (L s) + 1 : Nat) : Int)) = false := decide_eq_false (by omega)
      rw [hdf, show (1000000 : Nat) = 999999 + 1 from rfl, tollbooklaw12_TokensRefused.j0, if_neg Bool.false_ne_true, hnl]
      have fin : ∀ (u : ByteArray), u.size ≤ 65536 → (∀ k', (L u ++ 10 :: L t).length < k' → lex k' 0 1 0 (L u ++ 10 :: L t) = .err l c p) →
          (if (((u ++ (⟨#[10]⟩ : ByteArray)) ++ t).size : Int) > 65536 then (some true) else ((tokens_Cut.f 999999 ((u ++ (⟨#[10]⟩ : ByteArray)) ++ t)).bind fun bt => (if (bt.2.1 == 120 && (bt.2.2.1 == (l : Int) && (bt.2.2.2 == (c : Int)))) = true then (some ((bt.1.length : Int) == 0)) else (some false)))) = some true := by
        intro u hu herr
        by_cases hbig : (((u ++ (⟨#[10]⟩ : ByteArray)) ++ t).size : Int) > 65536
        · rw [if_pos hbig]
        · have hlen : (L u ++ 10 :: L t).length < ((u ++ (⟨#[10]⟩ : ByteArray)) ++ t).size + 1 := by rw [← h10, L_len]; omega
          rw [if_neg hbig, cut_some _ (by omega) _ (by omega), Option.bind_some, h10, herr _ hlen, render_err]
          simp
      by_cases hlast : l < nls (L s) + 1
      · obtain ⟨pre, y, h1, h2, h3⟩ := nlp_get (L s) 0 (l - 1) (by omega)
        have hrd : rd (nats (startsL (L s))) (l : Int) = ((pre.length + 1 : Nat) : Int) := by
          unfold rd nats startsL
          rw [toNat_cast, List.getD_eq_getElem?_getD, List.getElem?_map, show l = (l - 1) + 1 from by omega, List.getElem?_cons_succ, h3]
          simp
        have hpl : pre.length < s.size := by
          have := congrArg List.length h1
          rw [hls] at this; simp at this; omega
        have hu : L (s.extract 0 pre.length) = pre := by rw [L_to, h1]; simp
        have hus : (s.extract 0 pre.length).size = pre.length := by rw [← L_len, hu]
        rw [if_pos (by omega), if_pos (by omega), hrd, show (((pre.length + 1 : Nat) : Int) - 1) = ((pre.length : Nat) : Int) from by omega, wrap_nat pre.length (by omega), if_pos (by omega), if_pos (by omega), toNat_cast]
        have hsz1 : (s.extract 0 pre.length).size + 1 ≤ 9223372036854775807 := by rw [hus]; omega
        have hsz2 : ((s.extract 0 pre.length) ++ (⟨#[10]⟩ : ByteArray)).size + t.size ≤ 9223372036854775807 := by
          rw [ByteArray.size_append, hus, show (⟨#[10]⟩ : ByteArray).size = 1 from rfl]; omega
        rw [if_pos hsz1, if_pos hsz2]
        refine fin _ (by omega) (fun k' hk' => ?_)
        rw [hu] at hk' ⊢
        rw [h1] at hx
        exact err_head pre y (L t) l c p (s.size + 1) k' (by rw [← h1]; omega) hk' hx (by omega)
      · have hsz1 : s.size + 1 ≤ 9223372036854775807 := by omega
        have hsz2 : (s ++ (⟨#[10]⟩ : ByteArray)).size + t.size ≤ 9223372036854775807 := by
          rw [ByteArray.size_append, show (⟨#[10]⟩ : ByteArray).size = 1 from rfl]; omega
        rw [if_neg (by omega), if_pos (by omega), if_pos (by omega), if_pos hsz1, if_pos hsz2]
        exact fin s hs (fun k' hk' => err_all (L s) (L t) l c p (s.size + 1) k' hlt hk' hx)
  · refine ⟨1000, ?_⟩
    unfold tollbooklaw12_TokensRefused.f
    rw [awake_some _ (by omega), Option.bind_some, if_pos rfl, cut_long s (by omega), Option.bind_some]
    rfl
end Go.Proofs.Ythpnhmefjdfhfaa.Tk
