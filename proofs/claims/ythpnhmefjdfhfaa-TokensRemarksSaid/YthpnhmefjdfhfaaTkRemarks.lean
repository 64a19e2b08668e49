/- A remark on a line ahead puts all one line down, and changes nothing else: over the printed functions. -/
import Derived.Test.YthpnhmefjdfhfaaTkBack
import Derived.Test.YthpnhmefjdfhfaaPALLx7
namespace Go.Proofs.Ythpnhmefjdfhfaa.Tk
open Go.RowKit Go.Proofs.Ythpnhmefjdfhfaa.PALL Go.Proofs.YthpnhmefjdfhfaaW.PrintWords Go.Proofs.YthpnhmefjdfhfaaW.PrintLast

theorem ints_len (x : List UInt8) : (ints x).length = x.length := by simp [ints]
theorem remark_loop (s t : ByteArray) (ht : t.size ≤ 140737488351232) : ∀ (m i k : Nat) (x : List UInt8), i + m = t.size → x.length ≤ i + 1 →
    tollbooklaw12_TokensRemarks.l0 (k + m + 1) s t (ints x) (i : Int) = tollbooklaw12_TokensRemarks.l0 (k + 1) s t (ints (x ++ ((L t).drop i).filter noNl)) (t.size : Int)
  | 0, i, k, x, hi, _ => by
    obtain rfl : i = t.size := by omega
    rw [List.drop_of_length_le (by rw [L_len]; exact Nat.le_refl _)]; simp
  | m + 1, i, k, x, hi, hx => by
    have hlt : i < (L t).length := by rw [L_len]; omega
    have hd' := List.drop_eq_getElem_cons hlt
    obtain ⟨h1, h2, h3, _⟩ := drop_cons hd'
    rw [show k + (m + 1) + 1 = (k + m + 1) + 1 from by omega, tollbooklaw12_TokensRemarks.l0, if_pos (by omega), if_pos (by omega), h3, hd', List.filter_cons]
    by_cases hc : (L t)[i].toNat = 10
    · have hn : noNl (L t)[i] = false := decide_eq_false (fun q => q hc)
      rw [if_pos (by omega), wrap_add1 i (by omega), remark_loop s t ht m (i + 1) k x (by omega) (by omega), hn, if_neg Bool.false_ne_true]
    · have hn : noNl (L t)[i] = true := decide_eq_true hc
      rw [if_neg (by omega), if_pos (by rw [ints_len]; omega), wrap_add1 i (by omega), show ints x ++ [((L t)[i].toNat : Int)] = ints (x ++ [(L t)[i]]) from by simp [ints], remark_loop s t ht m (i + 1) k _ (by omega) (by simp; omega), hn, if_pos rfl]
      simp
theorem moved_loop (ts : List T) (d : Nat) (hsm : ts.length ≤ 1000000) (hl : ∀ t ∈ ts, t.line ≤ 1000000) : ∀ (m i k : Nat), i + m = ts.length → tollbooklaw12_TokensRemarks.l1 (k + m + 1) (ts.map toS) ((ts.map fun t => t.moved d 1).map toS) (i : Int) = some true
  | 0, i, k, hi => by
    obtain rfl : i = ts.length := by omega
    rw [tollbooklaw12_TokensRemarks.l1, List.length_map, if_neg (by omega)]
  | m + 1, i, k, hi => by
    have h1 : i < ts.length := by omega
    have hm : ((ts.map fun t => t.moved d 1)[i]?) = some (ts[i].moved d 1) := by rw [List.getElem?_map, List.getElem?_eq_getElem h1]; rfl
    have hli := hl _ (List.getElem_mem h1)
    rw [show k + (m + 1) + 1 = (k + m + 1) + 1 from by omega, tollbooklaw12_TokensRemarks.l1, List.length_map, List.length_map, List.length_map, if_pos (by omega), if_pos (by omega), if_pos (by omega),
      rd_toS ts i ts[i] (List.getElem?_eq_getElem h1), rd_toS _ i _ hm]
    rw [if_pos (show (toS (ts[i].moved d 1)).f0 = (toS ts[i]).f0 from rfl), if_pos (show (toS (ts[i].moved d 1)).f1.toList = (toS ts[i]).f1.toList from rfl),
      if_pos (show (toS (ts[i].moved d 1)).f2 = wrap64 ((toS ts[i]).f2 + 1) by simp only [toS, T.moved]; rw [wrap_add1 _ (by omega)]), if_pos (show (toS (ts[i].moved d 1)).f3 = (toS ts[i]).f3 from rfl), wrap_add1 i (by omega)]
    exact moved_loop ts d hsm hl m (i + 1) k (by omega)
theorem lex_lines : ∀ (k p l b : Nat) (x : List UInt8) (ts : List T), x.length < k → lex k p l b x = .ok ts → ∀ t ∈ ts, t.line ≤ l + x.length
  | 0, _, _, _, _, _, h, _ => absurd h (by omega)
  | k + 1, p, l, b, [], ts, _, h => by
    rw [lex_nil] at h; cases h; simp
  | k + 1, p, l, b, c :: r, ts, hk, h => by
    simp only [List.length_cons] at hk ⊢
    intro t ht
    rcases solid_or c with hc | hc | hc | hc
    · rw [lex_nl _ _ _ _ _ _ hc] at h; have := lex_lines k _ _ _ _ _ (by omega) h t ht; omega
    · rw [lex_bl _ _ _ _ _ _ hc] at h; have := lex_lines k _ _ _ _ _ (by omega) h t ht; omega
    · rw [lex_rem _ _ _ _ _ _ hc] at h; have hpos := rem_pos c r hc; have := lex_lines k _ _ _ _ _ (by simp; omega) h t ht; rw [List.length_drop, List.length_cons] at this; omega
    · rcases tok_or (c :: r) with hk' | ⟨h1, h2⟩
      · rw [lex_err _ _ _ _ _ _ hc hk'] at h; cases h
      · rw [lex_tok _ _ _ _ _ _ hc h1 h2] at h
        obtain ⟨us, hu, rfl⟩ := cons_ok h
        rcases List.mem_cons.1 ht with rfl | ht
        · simp only; omega
        · have := lex_lines k _ _ _ _ _ (by simp; omega) hu t ht; rw [List.length_drop, List.length_cons] at this; omega
theorem lex_err_line : ∀ (k p l b : Nat) (x : List UInt8) (m c q : Nat), x.length < k → lex k p l b x = .err m c q → m ≤ l + x.length
  | 0, _, _, _, _, _, _, _, h, _ => absurd h (by omega)
  | k + 1, p, l, b, [], m, c, q, _, h => by rw [lex_nil] at h; cases h
  | k + 1, p, l, b, d :: r, m, c, q, hk, h => by
    simp only [List.length_cons] at hk ⊢
    rcases solid_or d with hc | hc | hc | hc
    · rw [lex_nl _ _ _ _ _ _ hc] at h; have := lex_err_line k _ _ _ _ _ _ _ (by omega) h; omega
    · rw [lex_bl _ _ _ _ _ _ hc] at h; have := lex_err_line k _ _ _ _ _ _ _ (by omega) h; omega
    · rw [lex_rem _ _ _ _ _ _ hc] at h; have hpos := rem_pos d r hc; have := lex_err_line k _ _ _ _ _ _ _ (by simp; omega) h; rw [List.length_drop, List.length_cons] at this; omega
    · rcases tok_or (d :: r) with ht | ⟨h1, h2⟩
      · rw [lex_err _ _ _ _ _ _ hc ht] at h; cases h; omega
      · rw [lex_tok _ _ _ _ _ _ hc h1 h2] at h
        have := lex_err_line k _ _ _ _ _ _ _ (by simp; omega) (cons_err h)
        rw [List.length_drop, List.length_cons] at this; omega
theorem render_err' (l c p : Nat) : render [] (.err l c p) = ([], 120, (l : Int), (c : Int)) := rfl
theorem TokensRemarks_pure : tollbooklaw12_TokensRemarks.Pure := by
  intro s t hs ht
  obtain ⟨F, hF⟩ : ∃ F, (L t).filter noNl = F := ⟨_, rfl⟩
  have hFl : F.length ≤ t.size := by rw [← hF, ← L_len]; exact List.length_filter_le _ _
  have hFn : ∀ c ∈ F, noNl c = true := fun c hc => by rw [← hF] at hc; exact (List.mem_filter.1 hc).2
  refine ⟨1000000 + t.size + 1, ?_⟩
  unfold tollbooklaw12_TokensRemarks.f
  rw [awake_some _ (by omega), Option.bind_some, if_pos rfl]
  have h0 := remark_loop s t ht t.size 0 1000000 [35] (by omega) (by simp)
  rw [List.drop_zero, hF, show ((0 : Nat) : Int) = 0 from rfl, show ints [35] = [35] from rfl] at h0
  rw [h0, tollbooklaw12_TokensRemarks.l0, if_neg (by omega), str_ints]
  have hXL : L (⟨([35] ++ F).toArray⟩ : ByteArray) = 35 :: F := by simp [L]
  have hXs : (⟨([35] ++ F).toArray⟩ : ByteArray).size = F.length + 1 := by rw [← L_len, hXL]; rfl
  have hAL : L (((⟨([35] ++ F).toArray⟩ : ByteArray) ++ (⟨#[10]⟩ : ByteArray)) ++ s) = 35 :: (F ++ 10 :: L s) := by simp [L]
  have hAs : (((⟨([35] ++ F).toArray⟩ : ByteArray) ++ (⟨#[10]⟩ : ByteArray)) ++ s).size = F.length + 2 + s.size := by rw [← L_len, hAL]; simp; omega
  have h1s : (⟨#[10]⟩ : ByteArray).size = 1 := rfl
  rw [if_pos (by rw [hXs]; omega), if_pos (by rw [ByteArray.size_append, hXs, h1s]; omega)]
  by_cases hbig : ((((⟨([35] ++ F).toArray⟩ : ByteArray) ++ (⟨#[10]⟩ : ByteArray)) ++ s).size : Int) > 65536
  · rw [if_pos hbig]
  · rw [if_neg hbig, cut_some s (by omega) _ (by omega), Option.bind_some, cut_some _ (by omega) _ (by omega), Option.bind_some, hAs, hAL]
    have hlt : (L s).length < s.size + 1 := by rw [L_len]; omega
    have hmv : lex (F.length + 2 + s.size + 1) 0 1 0 (35 :: (F ++ 10 :: L s)) = (lex (s.size + 1) 0 1 0 (L s)).moved (F.length + 2) 1 := by
      rw [show F.length + 2 + s.size + 1 = (F.length + s.size + 1) + 2 from by omega, lex_remark _ _ _ _ _ _ hFn]
      have := lex_moved (F.length + 2) 1 (F.length + s.size + 1) 0 1 0 (L s)
      rw [lex_fuel (F.length + s.size + 1) (s.size + 1) 0 1 0 _ (by rw [L_len]; omega) hlt] at this
      rw [← this]
      congr 1
    rw [hmv]
    cases hx : lex (s.size + 1) 0 1 0 (L s) with
    | err l c p =>
      have hll : l ≤ 65537 := by
        have := lex_err_line (s.size + 1) 0 1 0 (L s) l c p hlt hx
        rw [L_len] at this; omega
      rw [show (R.err l c p).moved (F.length + 2) 1 = .err (l + 1) c (p + (F.length + 2)) from rfl, render_err', render_err']
      simp only
      rw [if_pos trivial, if_neg (by decide), if_pos (by rw [wrap_add1 l (by omega)]), if_pos trivial]
      rw [show (1000000 : Nat) = 999999 + 1 from rfl, tollbooklaw12_TokensRemarks.j1, if_neg (by decide), show (999999 : Nat) = 999998 + 1 from rfl, tollbooklaw12_TokensRemarks.l1, if_neg (by decide)]
    | ok ts =>
      have htot := lex_total _ _ _ _ _ _ hlt hx
      rw [L_len] at htot
      have hlines := lex_lines _ _ _ _ _ _ hlt hx
      rw [show (R.ok ts).moved (F.length + 2) 1 = .ok (ts.map fun t => t.moved (F.length + 2) 1) from rfl, render_ok, render_ok]
      have hb : (((ts.map toS).length : Int) != (((ts.map fun t => t.moved (F.length + 2) 1).map toS).length : Int)) = false := by simp
      simp only
      rw [if_pos trivial, if_pos trivial, hb, show (1000000 : Nat) = 999999 + 1 from rfl, tollbooklaw12_TokensRemarks.j1, if_neg Bool.false_ne_true, show (999999 : Nat) = (999998 - ts.length) + ts.length + 1 from by omega]
      exact moved_loop ts (F.length + 2) (by omega) (fun t ht => by have := hlines t ht; rw [L_len] at this; omega) ts.length 0 _ (by omega)
end Go.Proofs.Ythpnhmefjdfhfaa.Tk
