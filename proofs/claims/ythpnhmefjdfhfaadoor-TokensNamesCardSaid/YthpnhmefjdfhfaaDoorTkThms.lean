/- The cutting up of a text: what its tokens are, cut up again; a remark ahead; what stands behind a refusal; each token's place. -/
import Derived.Test.YthpnhmefjdfhfaaDoorTkLaws
namespace Go.Proofs.YthpnhmefjdfhfaaDoor.Tk

/-! ### the steps of lex -/
theorem lex_nil (k p l b : Nat) : lex (k + 1) p l b [] = .ok [⟨0, [], l, p - b + 1, p⟩] := rfl
theorem lex_nl (k p l b : Nat) (c : UInt8) (r : List UInt8) (h : c.toNat = 10) : lex (k + 1) p l b (c :: r) = lex k (p + 1) (l + 1) (p + 1) r := by
  rw [lex, if_pos h]
theorem lex_bl (k p l b : Nat) (c : UInt8) (r : List UInt8) (h : blank c = true) : lex (k + 1) p l b (c :: r) = lex k (p + 1) l b r := by
  have h1 : ¬ c.toNat = 10 := by simp [blank] at h; omega
  rw [lex, if_neg h1, if_pos h]
theorem lex_rem (k p l b : Nat) (c : UInt8) (r : List UInt8) (h : c.toNat = 35) : lex (k + 1) p l b (c :: r) = lex k (p + run noNl (c :: r)) l b ((c :: r).drop (run noNl (c :: r))) := by
  rw [lex, if_neg (by omega), if_neg (by simp [blank]; omega), if_pos h]
/-- neither a blank nor a remark begins here -/
def Solid (c : UInt8) : Prop := ¬ c.toNat = 10 ∧ blank c = false ∧ ¬ c.toNat = 35
theorem lex_err (k p l b : Nat) (c : UInt8) (r : List UInt8) (hs : Solid c) (h : (next (c :: r)).2 = 0 ∨ stuck (next (c :: r)).1 ((c :: r).drop (next (c :: r)).2) = true) : lex (k + 1) p l b (c :: r) = .err l (p - b + 1) p := by
  rw [lex, if_neg hs.1, if_neg (by simp [hs.2.1]), if_neg hs.2.2, if_pos h]
theorem lex_tok (k p l b : Nat) (c : UInt8) (r : List UInt8) (hs : Solid c) (h : (next (c :: r)).2 ≠ 0) (h' : stuck (next (c :: r)).1 ((c :: r).drop (next (c :: r)).2) = false) :
    lex (k + 1) p l b (c :: r) = (lex k (p + (next (c :: r)).2) l b ((c :: r).drop (next (c :: r)).2)).cons ⟨(next (c :: r)).1, (c :: r).take (next (c :: r)).2, l, p - b + 1, p⟩ := by
  rw [lex, if_neg hs.1, if_neg (by simp [hs.2.1]), if_neg hs.2.2, if_neg (by simp [h, h'])]
theorem solid_or (c : UInt8) : c.toNat = 10 ∨ blank c = true ∨ c.toNat = 35 ∨ Solid c := by
  unfold Solid
  by_cases h1 : c.toNat = 10
  · exact .inl h1
  · by_cases h2 : blank c = true
    · exact .inr (.inl h2)
    · by_cases h3 : c.toNat = 35
      · exact .inr (.inr (.inl h3))
      · exact .inr (.inr (.inr ⟨h1, by simpa using h2, h3⟩))
theorem tok_or (l : List UInt8) : ((next l).2 = 0 ∨ stuck (next l).1 (l.drop (next l).2) = true) ∨ ((next l).2 ≠ 0 ∧ stuck (next l).1 (l.drop (next l).2) = false) := by
  by_cases h1 : (next l).2 = 0
  · exact .inl (.inl h1)
  · cases h2 : stuck (next l).1 (l.drop (next l).2)
    · exact .inr ⟨h1, rfl⟩
    · exact .inl (.inr rfl)
theorem rem_pos (c : UInt8) (r : List UInt8) (h : c.toNat = 35) : 0 < run noNl (c :: r) := by
  rw [run_cons, if_pos (by simp [noNl]; omega)]; omega

/-! ### cut up again -/
/-- a token that is one by itself -/
def Good (t : T) : Prop := t.kind ≠ 0 ∧ (∃ c r, t.text = c :: r ∧ Solid c) ∧ next t.text = (t.kind, t.text.length)
theorem next_kind (l : List UInt8) : (next l).1 ≠ 0 := by
  unfold next; repeat (split; · simp)
  simp
theorem good_take (c : UInt8) (r : List UInt8) (hs : Solid c) (h : (next (c :: r)).2 ≠ 0) (l p q : Nat) : Good ⟨(next (c :: r)).1, (c :: r).take (next (c :: r)).2, l, p, q⟩ := by
  refine ⟨next_kind _, ?_, ?_⟩
  · obtain ⟨n, hn⟩ : ∃ n, (next (c :: r)).2 = n + 1 := ⟨(next (c :: r)).2 - 1, by omega⟩
    exact ⟨c, r.take n, by simp only [hn, List.take_succ_cons], hs⟩
  · have := next_le (c :: r)
    simp only [next_take _ h, List.length_take]
    rw [Nat.min_eq_left this]
theorem cons_ok {t : T} {x : R} {ts : List T} (h : x.cons t = .ok ts) : ∃ us, x = .ok us ∧ ts = t :: us := by
  cases x with
  | err => simp [R.cons] at h
  | ok us => simp [R.cons] at h; exact ⟨us, rfl, h.symm⟩
theorem cons_err {t : T} {x : R} {l c p : Nat} (h : x.cons t = .err l c p) : x = .err l c p := by
  cases x with
  | err => simpa [R.cons] using h
  | ok us => simp [R.cons] at h
theorem lex_shape : ∀ (k p l b : Nat) (x : List UInt8) (ts : List T), x.length < k → lex k p l b x = .ok ts → ∃ us e, ts = us ++ [e] ∧ e.kind = 0 ∧ e.text = [] ∧ ∀ t ∈ us, Good t
  | 0, _, _, _, _, _, h, _ => absurd h (by omega)
  | k + 1, p, l, b, [], ts, _, h => by
    rw [lex_nil] at h; cases h
    exact ⟨[], _, rfl, rfl, rfl, by simp⟩
  | k + 1, p, l, b, c :: r, ts, hk, h => by
    simp only [List.length_cons] at hk
    rcases solid_or c with hc | hc | hc | hc
    · rw [lex_nl _ _ _ _ _ _ hc] at h; exact lex_shape k _ _ _ _ _ (by omega) h
    · rw [lex_bl _ _ _ _ _ _ hc] at h; exact lex_shape k _ _ _ _ _ (by omega) h
    · rw [lex_rem _ _ _ _ _ _ hc] at h; have := rem_pos c r hc; exact lex_shape k _ _ _ _ _ (by simp; omega) h
    · rcases tok_or (c :: r) with ht | ⟨h1, h2⟩
      · rw [lex_err _ _ _ _ _ _ hc ht] at h; cases h
      · rw [lex_tok _ _ _ _ _ _ hc h1 h2] at h
        obtain ⟨us, hu, rfl⟩ := cons_ok h
        obtain ⟨vs, e, rfl, he1, he2, hg⟩ := lex_shape k _ _ _ _ _ (by simp; omega) hu
        refine ⟨_ :: vs, e, rfl, he1, he2, fun t ht => ?_⟩
        rcases List.mem_cons.1 ht with rfl | ht
        · exact good_take c r hc h1 _ _ _
        · exact hg t ht
/-- the texts, with a blank ahead of each -/
def blanks : List T → List UInt8
  | [] => []
  | t :: ts => 32 :: (t.text ++ blanks ts)
/-- the texts with a blank between each two -/
def joined : List T → List UInt8
  | [] => []
  | t :: ts => t.text ++ blanks ts
def alike (a b : List T) : Prop := b.map (fun t => (t.kind, t.text)) = a.map (fun t => (t.kind, t.text))
theorem lex_good (k p l b : Nat) (t : T) (x : List UInt8) (hg : Good t) (hx : x = [] ∨ ∃ y, x = 32 :: y) :
    lex (k + 1) p l b (t.text ++ x) = (lex k (p + t.text.length) l b x).cons ⟨t.kind, t.text, l, p - b + 1, p⟩ := by
  obtain ⟨_, ⟨c, r, hr, hs⟩, hn⟩ := hg
  have hsep : Sep 32 := .inl rfl
  have e : next (t.text ++ x) = (t.kind, t.text.length) := by
    rcases hx with rfl | ⟨y, rfl⟩
    · rw [List.append_nil]; exact hn
    · rw [next_sep hsep _ _ (by rw [hr]; simp)]; exact hn
  have hst : stuck t.kind x = false := by
    rcases hx with rfl | ⟨y, rfl⟩
    · simp [stuck]
    · simp [stuck, hsep.af]
  have e' : t.text ++ x = c :: (r ++ x) := by rw [hr]; rfl
  have e1 : (t.text ++ x).drop t.text.length = x := by simp
  have e2 : (t.text ++ x).take t.text.length = t.text := by simp
  rw [e'] at e e1 e2 ⊢
  rw [lex_tok k p l b c (r ++ x) hs (by rw [e]; simp [hr]) (by rw [e]; simp only; rw [e1]; exact hst), e]
  simp only
  rw [e1, e2]
theorem blanks_head (us : List T) (e : T) : ∃ y, blanks (us ++ [e]) = 32 :: y := by
  cases us with
  | nil => exact ⟨_, rfl⟩
  | cons t us => exact ⟨_, rfl⟩
theorem lex_blanks : ∀ (us : List T) (e : T) (k p l b : Nat), e.kind = 0 → e.text = [] → (∀ t ∈ us, Good t) → (blanks (us ++ [e])).length < k →
    ∃ m, lex k p l b (blanks (us ++ [e])) = .ok m ∧ alike (us ++ [e]) m ∧ ∀ t ∈ m, t.line = l
  | [], e, k, p, l, b, he1, he2, _, hk => by
    simp only [List.nil_append, blanks, he2, List.append_nil, List.length_cons, List.length_nil] at hk ⊢
    obtain ⟨k, rfl⟩ : ∃ n, k = n + 2 := ⟨k - 2, by omega⟩
    refine ⟨_, by rw [lex_bl _ _ _ _ _ _ (by decide), lex_nil], ?_, ?_⟩
    · simp [alike, he1, he2]
    · simp
  | t :: us, e, k, p, l, b, he1, he2, hg, hk => by
    simp only [List.cons_append, blanks, List.length_cons, List.length_append] at hk ⊢
    obtain ⟨k, rfl⟩ : ∃ n, k = n + 2 := ⟨k - 2, by omega⟩
    have hgt := hg t (by simp)
    have htl : 0 < t.text.length := by obtain ⟨_, ⟨c, r, hr, _⟩, _⟩ := hgt; rw [hr]; simp
    obtain ⟨m, hm, ha, hl⟩ := lex_blanks us e k (p + 1 + t.text.length) l b he1 he2 (fun u hu => hg u (by simp [hu])) (by omega)
    refine ⟨_, by rw [lex_bl _ _ _ _ _ _ (by decide), lex_good _ _ _ _ _ _ hgt (.inr (blanks_head us e)), hm, R.cons], ?_, ?_⟩
    · simp only [alike, List.map_cons] at ha ⊢; rw [ha]
    · intro u hu
      rcases List.mem_cons.1 hu with rfl | hu
      · rfl
      · exact hl u hu
/-- The stage's theorem, of lex. -/
theorem lex_joined (k p l b : Nat) (x : List UInt8) (ts : List T) (hk : x.length < k) (h : lex k p l b x = .ok ts) (k' p' l' b' : Nat) (hk' : (joined ts).length < k') :
    ∃ m, lex k' p' l' b' (joined ts) = .ok m ∧ alike ts m ∧ ∀ t ∈ m, t.line = l' := by
  obtain ⟨us, e, rfl, he1, he2, hg⟩ := lex_shape k p l b x ts hk h
  obtain ⟨k', rfl⟩ : ∃ n, k' = n + 1 := ⟨k' - 1, by omega⟩
  cases us with
  | nil =>
    simp only [List.nil_append, joined, he2, blanks, List.append_nil]
    exact ⟨_, lex_nil _ _ _ _, by simp [alike, he1, he2], by simp⟩
  | cons t us =>
    simp only [List.cons_append, joined, List.length_append] at hk' ⊢
    have hgt := hg t (by simp)
    have htl : 0 < t.text.length := by obtain ⟨_, ⟨c, r, hr, _⟩, _⟩ := hgt; rw [hr]; simp
    obtain ⟨m, hm, ha, hl⟩ := lex_blanks us e k' (p' + t.text.length) l' b' he1 he2 (fun u hu => hg u (by simp [hu])) (by omega)
    refine ⟨_, by rw [lex_good _ _ _ _ _ _ hgt (.inr (blanks_head us e)), hm, R.cons], ?_, ?_⟩
    · simp only [alike, List.map_cons] at ha ⊢; rw [ha]
    · intro u hu
      rcases List.mem_cons.1 hu with rfl | hu
      · rfl
      · exact hl u hu

/-! ### fuel; a shift -/
theorem lex_fuel : ∀ (k k' p l b : Nat) (x : List UInt8), x.length < k → x.length < k' → lex k p l b x = lex k' p l b x
  | 0, _, _, _, _, _, h, _ => absurd h (by omega)
  | _ + 1, 0, _, _, _, _, _, h => absurd h (by omega)
  | k + 1, k' + 1, p, l, b, [], _, _ => rfl
  | k + 1, k' + 1, p, l, b, c :: r, h, h' => by
    simp only [List.length_cons] at h h'
    rcases solid_or c with hc | hc | hc | hc
    · rw [lex_nl _ _ _ _ _ _ hc, lex_nl _ _ _ _ _ _ hc]; exact lex_fuel k k' _ _ _ _ (by omega) (by omega)
    · rw [lex_bl _ _ _ _ _ _ hc, lex_bl _ _ _ _ _ _ hc]; exact lex_fuel k k' _ _ _ _ (by omega) (by omega)
    · rw [lex_rem _ _ _ _ _ _ hc, lex_rem _ _ _ _ _ _ hc]; have := rem_pos c r hc; exact lex_fuel k k' _ _ _ _ (by simp; omega) (by simp; omega)
    · rcases tok_or (c :: r) with ht | ⟨h1, h2⟩
      · rw [lex_err _ _ _ _ _ _ hc ht, lex_err _ _ _ _ _ _ hc ht]
      · rw [lex_tok _ _ _ _ _ _ hc h1 h2, lex_tok _ _ _ _ _ _ hc h1 h2, lex_fuel k k' _ _ _ _ (by simp; omega) (by simp; omega)]
def T.moved (t : T) (d e : Nat) : T := ⟨t.kind, t.text, t.line + e, t.col, t.pos + d⟩
def R.moved (d e : Nat) : R → R
  | .err l c p => .err (l + e) c (p + d)
  | .ok ts => .ok (ts.map fun t => t.moved d e)
theorem moved_cons (t : T) (x : R) (d e : Nat) : (x.cons t).moved d e = (x.moved d e).cons (t.moved d e) := by cases x <;> rfl
theorem lex_moved (d e : Nat) : ∀ (k p l b : Nat) (x : List UInt8), lex k (p + d) (l + e) (b + d) x = (lex k p l b x).moved d e
  | 0, _, _, _, _ => rfl
  | k + 1, p, l, b, [] => by rw [lex_nil, lex_nil]; simp [R.moved, T.moved]; omega
  | k + 1, p, l, b, c :: r => by
    rcases solid_or c with hc | hc | hc | hc
    · rw [lex_nl _ _ _ _ _ _ hc, lex_nl _ _ _ _ _ _ hc, ← lex_moved d e k]; congr 1 <;> omega
    · rw [lex_bl _ _ _ _ _ _ hc, lex_bl _ _ _ _ _ _ hc, ← lex_moved d e k]; congr 1; omega
    · rw [lex_rem _ _ _ _ _ _ hc, lex_rem _ _ _ _ _ _ hc, ← lex_moved d e k]; congr 1; omega
    · rcases tok_or (c :: r) with ht | ⟨h1, h2⟩
      · rw [lex_err _ _ _ _ _ _ hc ht, lex_err _ _ _ _ _ _ hc ht]; simp [R.moved]; omega
      · rw [lex_tok _ _ _ _ _ _ hc h1 h2, lex_tok _ _ _ _ _ _ hc h1 h2, moved_cons, ← lex_moved d e k]
        congr 1
        · simp [T.moved]; omega
        · congr 1; omega
/-- A remark on a line ahead. -/
theorem lex_remark (k p l b : Nat) (a x : List UInt8) (ha : ∀ c ∈ a, noNl c = true) :
    lex (k + 2) p l b (35 :: (a ++ 10 :: x)) = lex k (p + a.length + 2) (l + 1) (p + a.length + 2) x := by
  have e : run noNl (35 :: (a ++ 10 :: x)) = a.length + 1 := by
    rw [run_cons, if_pos (by decide), run_sep _ 10 (by decide), run_full _ _ ha]
  rw [lex_rem _ _ _ _ _ _ (by decide), e, List.drop_succ_cons, List.drop_left, lex_nl _ _ _ _ _ _ (by decide)]
  congr 1

/-! ### what stands behind -/
def nls (x : List UInt8) : Nat := x.countP fun c => decide (c.toNat = 10)
theorem nls_append (a b : List UInt8) : nls (a ++ b) = nls a + nls b := by simp [nls, List.countP_append]
theorem nls_cons (c : UInt8) (r : List UInt8) : nls (c :: r) = nls r + if c.toNat = 10 then 1 else 0 := by
  simp [nls, List.countP_cons]
theorem nls_take_drop (x : List UInt8) (n : Nat) : nls x = nls (x.take n) + nls (x.drop n) := by rw [← nls_append, List.take_append_drop]
theorem lex_line : ∀ (k p l b : Nat) (x : List UInt8) (m c q : Nat), lex k p l b x = .err m c q → l ≤ m
  | 0, _, _, _, _, _, _, _, h => by simp [lex] at h
  | k + 1, p, l, b, [], m, c, q, h => by rw [lex_nil] at h; cases h
  | k + 1, p, l, b, d :: r, m, c, q, h => by
    rcases solid_or d with hc | hc | hc | hc
    · rw [lex_nl _ _ _ _ _ _ hc] at h; have := lex_line k _ _ _ _ _ _ _ h; omega
    · rw [lex_bl _ _ _ _ _ _ hc] at h; exact lex_line k _ _ _ _ _ _ _ h
    · rw [lex_rem _ _ _ _ _ _ hc] at h; exact lex_line k _ _ _ _ _ _ _ h
    · rcases tok_or (d :: r) with ht | ⟨h1, h2⟩
      · rw [lex_err _ _ _ _ _ _ hc ht] at h; cases h; exact Nat.le_refl _
      · rw [lex_tok _ _ _ _ _ _ hc h1 h2] at h
        exact lex_line k _ _ _ _ _ _ _ (cons_err h)
/-- no line ends within a token -/
theorem noNl_run (p : UInt8 → Bool) (hp : ∀ c, p c = true → noNl c = true) (l : List UInt8) : ∀ c ∈ l.take (run p l), noNl c = true := fun c hc => hp c (run_all p l c hc)
theorem tok_noNl (d : UInt8) (r : List UInt8) (hd : ¬ d.toNat = 10) : ∀ c ∈ (d :: r).take (next (d :: r)).2, noNl c = true := by
  intro c hc
  refine Classical.byContradiction fun hn => ?_
  have hn : c.toNat = 10 := by simpa [noNl] using hn
  have hc10 : Sep c := .inr hn
  obtain ⟨a, b, e⟩ := List.append_of_mem hc
  have hl : d :: r = a ++ c :: (b ++ (d :: r).drop (next (d :: r)).2) := by
    conv => lhs; rw [← List.take_append_drop (next (d :: r)).2 (d :: r), e]
    simp
  have ha : a ≠ [] := by
    rintro rfl
    rw [List.nil_append] at hl
    injection hl with h1 _
    exact hd (by rw [h1]; exact hn)
  have h2 : next (d :: r) = next a := by
    have := next_sep hc10 a (b ++ (d :: r).drop (next (d :: r)).2) ha
    rwa [← hl] at this
  have h3 := next_le a
  have h4 : a.length < (next (d :: r)).2 := by
    have := List.length_take_le (next (d :: r)).2 (d :: r)
    rw [e] at this; simp at this; omega
  rw [h2] at h4; omega
/-- An error within a text stands as well with a line's end, and whatever, behind that text; where the text has none, any error stands on a later line. -/
theorem lex_behind : ∀ (k p l b : Nat) (a x : List UInt8), (a ++ 10 :: x).length < k →
    (∀ m c q, lex k p l b a = .err m c q → lex k p l b (a ++ 10 :: x) = .err m c q) ∧
    (∀ ts, lex k p l b a = .ok ts → ∀ m c q, lex k p l b (a ++ 10 :: x) = .err m c q → l + nls a < m)
  | 0, _, _, _, _, _, h => absurd h (by omega)
  | k + 1, p, l, b, [], x, hk => by
    refine ⟨fun m c q h => by rw [lex_nil] at h; (cases h), fun ts _ m c q h => ?_⟩
    rw [List.nil_append, lex_nl _ _ _ _ _ _ (by decide)] at h
    have := lex_line _ _ _ _ _ _ _ _ h
    simp [nls]; omega
  | k + 1, p, l, b, d :: a, x, hk => by
    simp only [List.cons_append, List.length_cons] at hk ⊢
    rcases solid_or d with hc | hc | hc | hc
    · rw [lex_nl _ _ _ _ _ _ hc, lex_nl _ _ _ _ _ _ hc]
      obtain ⟨i1, i2⟩ := lex_behind k (p + 1) (l + 1) (p + 1) a x (by omega)
      refine ⟨i1, fun ts h m c q h' => ?_⟩
      have := i2 ts h m c q h'
      rw [nls_cons, if_pos hc]; omega
    · rw [lex_bl _ _ _ _ _ _ hc, lex_bl _ _ _ _ _ _ hc]
      obtain ⟨i1, i2⟩ := lex_behind k (p + 1) l b a x (by omega)
      refine ⟨i1, fun ts h m c q h' => ?_⟩
      have := i2 ts h m c q h'
      rw [nls_cons, if_neg (by simp [blank] at hc; omega)]; omega
    · rw [lex_rem _ _ _ _ _ _ hc, lex_rem _ _ _ _ _ _ hc]
      have e : run noNl (d :: (a ++ 10 :: x)) = run noNl (d :: a) := run_sep noNl 10 (by decide) (d :: a) x
      have hr := run_le noNl (d :: a)
      have hpos := rem_pos d a hc
      rw [e, ← List.cons_append, drop_sep _ _ _ hr]
      obtain ⟨i1, i2⟩ := lex_behind k (p + run noNl (d :: a)) l b ((d :: a).drop (run noNl (d :: a))) x (by simp only [List.length_append, List.length_drop, List.length_cons] at hk ⊢; omega)
      refine ⟨i1, fun ts h m c q h' => ?_⟩
      have := i2 ts h m c q h'
      have hz : nls ((d :: a).take (run noNl (d :: a))) = 0 := by
        unfold nls
        rw [List.countP_eq_zero]
        intro c hc
        have := noNl_run noNl (fun _ h => h) (d :: a) c hc
        simpa [noNl] using this
      rw [nls_take_drop (d :: a) (run noNl (d :: a)), hz]; omega
    · have hsep : Sep 10 := .inr rfl
      have e : next (d :: (a ++ 10 :: x)) = next (d :: a) := next_sep hsep (d :: a) x (by simp)
      have hr := next_le (d :: a)
      have ed : (d :: (a ++ 10 :: x)).drop (next (d :: a)).2 = (d :: a).drop (next (d :: a)).2 ++ 10 :: x := drop_sep (d :: a) _ _ hr
      have es : stuck (next (d :: (a ++ 10 :: x))).1 ((d :: (a ++ 10 :: x)).drop (next (d :: (a ++ 10 :: x))).2) = stuck (next (d :: a)).1 ((d :: a).drop (next (d :: a)).2) := by
        rw [e, ed, stuck_sep hsep]
      rcases tok_or (d :: a) with ht | ⟨h1, h2⟩
      · rw [lex_err _ _ _ _ _ _ hc ht, lex_err _ _ _ _ _ _ hc (by rw [es, e]; exact ht)]
        exact ⟨fun m c q h => h, fun ts h => by cases h⟩
      · rw [lex_tok _ _ _ _ _ _ hc h1 h2, lex_tok _ _ _ _ _ _ hc (by rw [e]; exact h1) (by rw [es]; exact h2), e, ed]
        obtain ⟨i1, i2⟩ := lex_behind k (p + (next (d :: a)).2) l b ((d :: a).drop (next (d :: a)).2) x (by simp only [List.length_append, List.length_drop, List.length_cons] at hk ⊢; omega)
        refine ⟨fun m c q h => ?_, fun ts h m c q h' => ?_⟩
        · rw [i1 m c q (cons_err h)]; rfl
        · obtain ⟨us, hu, _⟩ := cons_ok h
          have := i2 us hu m c q (cons_err h')
          have hz : nls ((d :: a).take (next (d :: a)).2) = 0 := by
            unfold nls
            rw [List.countP_eq_zero]
            intro c hc'
            have := tok_noNl d a hc.1 c hc'
            simpa [noNl] using this
          rw [nls_take_drop (d :: a) (next (d :: a)).2, hz]; omega
end Go.Proofs.YthpnhmefjdfhfaaDoor.Tk
