/- The heads of the proofs over TokensPlaces: lines of TkBack and TkRefused, apart so that a claim need not carry what those import. -/
import Derived.Test.YthpnhmefjdfhfaaTkCut
import Derived.Test.YthpnhmefjdfhfaaTkStarts
import Derived.Test.YthpnhmefjdfhfaaPALLx8
import Derived.Test.YthpnhmefjdfhfaaPALLx5
namespace Go.Proofs.Ythpnhmefjdfhfaa.Tk
open Go.RowKit Go.Proofs.Ythpnhmefjdfhfaa.PALL Go.Proofs.YthpnhmefjdfhfaaW.PrintWords Go.Proofs.YthpnhmefjdfhfaaW.PrintLast

theorem awake_some (k : Nat) (hk : 200 ≤ k) : tollbooklaw12_awake.f k = some true := by
  unfold tollbooklaw12_awake.f
  rw [cut_some _ (by decide) k (by simp only [show (⟨#[114, 97, 116, 101, 32, 102, 111, 111, 100, 46, 98, 114, 101, 97, 100, 32, 55, 46, 53, 37]⟩ : ByteArray).size = 20 from rfl]; omega), Option.bind_some, cut_some _ (by decide) k (by simp only [show (⟨#[97, 32, 66]⟩ : ByteArray).size = 3 from rfl]; omega), Option.bind_some]
  decide +kernel

/-! ### joined -/
/-- the texts' lengths, and one more each -/
def total : List T → Nat
  | [] => 0
  | t :: ts => t.text.length + 1 + total ts
theorem total_append (a b : List T) : total (a ++ b) = total a + total b := by
  induction a with
  | nil => simp [total]
  | cons t a ih => simp only [List.cons_append, total]; rw [ih]; omega
theorem len_total (ts : List T) : ts.length ≤ total ts := by
  induction ts with
  | nil => simp [total]
  | cons t ts ih => simp only [List.length_cons, total]; omega
theorem rd_toS (ts : List T) (i : Nat) (t : T) (h : ts[i]? = some t) : rd_T34 (ts.map toS) (i : Int) = toS t := by
  unfold rd_T34
  rw [toNat_cast, List.getD_eq_getElem?_getD, List.getElem?_map, h]; rfl
theorem lex_total : ∀ (k p l b : Nat) (x : List UInt8) (ts : List T), x.length < k → lex k p l b x = .ok ts → total ts ≤ 2 * x.length + 1 ∧ ts.length ≤ x.length + 1
  | 0, _, _, _, _, _, h, _ => absurd h (by omega)
  | k + 1, p, l, b, [], ts, _, h => by
    rw [lex_nil] at h; cases h
    simp [total]
  | k + 1, p, l, b, c :: r, ts, hk, h => by
    simp only [List.length_cons] at hk ⊢
    rcases solid_or c with hc | hc | hc | hc
    · rw [lex_nl _ _ _ _ _ _ hc] at h; have := lex_total k _ _ _ _ _ (by omega) h; omega
    · rw [lex_bl _ _ _ _ _ _ hc] at h; have := lex_total k _ _ _ _ _ (by omega) h; omega
    · rw [lex_rem _ _ _ _ _ _ hc] at h; have hpos := rem_pos c r hc; have := lex_total k _ _ _ _ _ (by simp; omega) h; rw [List.length_drop, List.length_cons] at this; omega
    · rcases tok_or (c :: r) with ht | ⟨h1, h2⟩
      · rw [lex_err _ _ _ _ _ _ hc ht] at h; cases h
      · rw [lex_tok _ _ _ _ _ _ hc h1 h2] at h
        obtain ⟨us, hu, rfl⟩ := cons_ok h
        have := lex_total k _ _ _ _ _ (by simp; omega) hu
        have hle := next_le (c :: r)
        rw [List.length_drop, List.length_cons] at this
        simp only [total, List.length_take, List.length_cons] at hle ⊢
        omega
theorem lex_len_pos : ∀ (k p l b : Nat) (x : List UInt8) (ts : List T), x.length < k → lex k p l b x = .ok ts → ts ≠ [] := by
  intro k p l b x ts hk h
  obtain ⟨us, e, rfl, _⟩ := lex_shape k p l b x ts hk h
  simp

/-! ### the law -/
theorem no_spot (x : List S34) : (!((x, (0 : Int), (0 : Int), (0 : Int)).2.1 == 0) || (!((x, (0 : Int), (0 : Int), (0 : Int)).2.2.1 == 0) || (!((x, (0 : Int), (0 : Int), (0 : Int)).2.2.2 == 0)))) = false := rfl
theorem render_ok (ts : List T) : render [] (.ok ts) = (ts.map toS, 0, 0, 0) := rfl
def nats (l : List Nat) : List Int := l.map fun (n : Nat) => (n : Int)
theorem starts_loop (s : ByteArray) (hs : s.size ≤ 1000000000) : ∀ (m i k : Nat) (out : List Nat), i + m = s.size → out.length ≤ i + 1 → tollbooklaw12_starts.l0 (k + m + 1) s (nats out) (i : Int) = some (nats (out ++ nlp i ((L s).drop i)))
  | 0, i, k, out, hi, _ => by
    obtain rfl : i = s.size := by omega
    rw [tollbooklaw12_starts.l0, if_neg (by omega), List.drop_of_length_le (by rw [L_len]; exact Nat.le_refl _)]
    simp [nlp]
  | m + 1, i, k, out, hi, ho => by
    have hlt : i < (L s).length := by rw [L_len]; omega
    have hd' := List.drop_eq_getElem_cons hlt
    obtain ⟨h1, h2, h3, _⟩ := drop_cons hd'
    have hol : (nats out).length = out.length := by simp [nats]
    rw [show k + (m + 1) + 1 = (k + m + 1) + 1 from by omega, tollbooklaw12_starts.l0, if_pos (by omega), if_pos (by omega), h3, hd']
    unfold nlp
    by_cases hc : (L s)[i].toNat = 10
    · rw [if_pos (by omega), if_pos (by omega), wrap_add1 i (by omega), show nats out ++ [((i + 1 : Nat) : Int)] = nats (out ++ [i + 1]) from by simp [nats], starts_loop s hs m (i + 1) k _ (by omega) (by simp; omega), if_pos hc, h2]
      simp
    · rw [if_neg (by omega), wrap_add1 i (by omega), starts_loop s hs m (i + 1) k _ (by omega) (by omega), if_neg hc, h2]
theorem starts_some (s : ByteArray) (hs : s.size ≤ 1000000000) (k : Nat) (hk : s.size + 1 ≤ k) : tollbooklaw12_starts.f k s = some (nats (startsL (L s))) := by
  unfold tollbooklaw12_starts.f
  obtain ⟨k, rfl⟩ : ∃ k', k = k' + s.size + 1 := ⟨k - s.size - 1, by omega⟩
  have := starts_loop s hs s.size 0 k [0] (by omega) (by simp)
  rw [List.drop_zero] at this
  exact this
theorem render_err (l c p : Nat) : render [] (.err l c p) = ([], 120, (l : Int), (c : Int)) := rfl
theorem refl_int (a b : Int) : (((120 : Int) == 120) && ((a == a) && (b == b))) = true := by simp
end Go.Proofs.Ythpnhmefjdfhfaa.Tk
