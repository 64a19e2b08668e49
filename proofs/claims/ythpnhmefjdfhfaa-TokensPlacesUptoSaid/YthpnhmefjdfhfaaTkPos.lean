/- Each token at its place: of lex alone. -/
import Derived.Test.YthpnhmefjdfhfaaTkStarts
namespace Go.Proofs.Ythpnhmefjdfhfaa.Tk

theorem nlp_cons (i : Nat) (c : UInt8) (r : List UInt8) : nlp i (c :: r) = if c.toNat = 10 then (i + 1) :: nlp (i + 1) r else nlp (i + 1) r := rfl
theorem nlp_append : ∀ (i : Nat) (a x : List UInt8), nlp i (a ++ x) = nlp i a ++ nlp (i + a.length) x
  | _, [], _ => by simp [nlp]
  | i, c :: a, x => by
    rw [List.cons_append, nlp_cons, nlp_cons, nlp_append (i + 1) a x, List.length_cons, show i + 1 + a.length = i + (a.length + 1) from by omega]
    split <;> rfl
theorem starts_append (a x : List UInt8) : startsL (a ++ x) = startsL a ++ nlp a.length x := by
  unfold startsL; rw [nlp_append, Nat.zero_add]; rfl
theorem nlp_none : ∀ (i : Nat) (x : List UInt8), (∀ c ∈ x, noNl c = true) → nlp i x = []
  | _, [], _ => rfl
  | i, c :: r, h => by
    have hc : ¬ c.toNat = 10 := by have := h c (by simp); simpa [noNl] using this
    unfold nlp
    rw [if_neg hc, nlp_none (i + 1) r (fun d hd => h d (by simp [hd]))]
theorem nls_none (x : List UInt8) (h : ∀ c ∈ x, noNl c = true) : nls x = 0 := by
  rw [← nlp_len 0, nlp_none 0 x h]; rfl
/-- the line that begins at b, behind pre -/
def Inv (pre : List UInt8) (l b : Nat) : Prop := l = nls pre + 1 ∧ (startsL pre)[nls pre]? = some b ∧ b ≤ pre.length
theorem inv_nil : Inv [] 1 0 := ⟨rfl, rfl, Nat.le_refl _⟩
theorem inv_chunk {pre : List UInt8} {l b : Nat} (h : Inv pre l b) (x : List UInt8) (hx : ∀ c ∈ x, noNl c = true) : Inv (pre ++ x) l b := by
  refine ⟨by rw [nls_append, nls_none x hx]; exact h.1, ?_, by rw [List.length_append]; have := h.2.2; omega⟩
  rw [nls_append, nls_none x hx, starts_append, nlp_none _ x hx, List.append_nil]; exact h.2.1
theorem inv_nl {pre : List UInt8} {l b : Nat} (h : Inv pre l b) (c : UInt8) (hc : c.toNat = 10) : Inv (pre ++ [c]) (l + 1) (pre.length + 1) := by
  have hn : nls [c] = 1 := by rw [nls_cons, if_pos hc]; rfl
  refine ⟨by rw [nls_append, hn]; have := h.1; omega, ?_, by simp⟩
  have hq : nlp pre.length [c] = [pre.length + 1] := by simp [nlp, hc]
  have hl := starts_len pre
  rw [nls_append, hn, starts_append, hq, List.getElem?_append_right (by omega), hl]
  simp
theorem inv_at {pre : List UInt8} {l b : Nat} (h : Inv pre l b) (x : List UInt8) : 1 ≤ l ∧ l ≤ (startsL (pre ++ x)).length ∧ (startsL (pre ++ x))[l - 1]? = some b := by
  obtain ⟨h1, h2, _⟩ := h
  have hl := starts_len pre
  refine ⟨by omega, by rw [starts_append, List.length_append, hl]; omega, ?_⟩
  rw [h1, Nat.add_sub_cancel, starts_append, List.getElem?_append_left (by omega)]; exact h2
/-- blanks and remarks alone: within a remark at the end? -/
def btw : Bool → List UInt8 → Option Bool
  | f, [] => some f
  | f, c :: r => if c.toNat = 35 then btw true r else if c.toNat = 10 then btw false r else if f = true then btw true r else if blank c = true then btw false r else none
theorem btw_cons (f : Bool) (c : UInt8) (r : List UInt8) : btw f (c :: r) = if c.toNat = 35 then btw true r else if c.toNat = 10 then btw false r else if f = true then btw true r else if blank c = true then btw false r else none := rfl
theorem btw_append : ∀ (f : Bool) (a x : List UInt8), btw f (a ++ x) = (btw f a).bind fun g => btw g x
  | _, [], _ => rfl
  | f, c :: a, x => by
    rw [List.cons_append, btw_cons, btw_cons, btw_append true a x, btw_append false a x]
    split
    · rfl
    · split
      · rfl
      · split
        · rfl
        · split <;> rfl
theorem btw_rem : ∀ (x : List UInt8), (∀ c ∈ x, noNl c = true) → btw true x = some true
  | [], _ => rfl
  | c :: r, h => by
    have hc : ¬ c.toNat = 10 := by have := h c (by simp); simpa [noNl] using this
    have ih := btw_rem r (fun d hd => h d (by simp [hd]))
    unfold btw
    rw [ih]
    by_cases h3 : c.toNat = 35
    · rw [if_pos h3]
    · rw [if_neg h3, if_neg hc, if_pos rfl]
def Place (src : List UInt8) (t : T) : Prop :=
  1 ≤ t.line ∧ t.line ≤ (startsL src).length ∧ 1 ≤ t.col ∧ t.col ≤ t.pos + 1 ∧ (startsL src)[t.line - 1]? = some (t.pos + 1 - t.col) ∧ t.pos + t.text.length ≤ src.length ∧ (src.drop t.pos).take t.text.length = t.text
def Chain (src : List UInt8) : Nat → List T → Prop
  | e, [] => e = src.length
  | e, t :: ts => Place src t ∧ e ≤ t.pos ∧ (∃ f, btw false ((src.drop e).take (t.pos - e)) = some f) ∧ Chain src (t.pos + t.text.length) ts
theorem seg_step (pre x w r : List UInt8) (e : Nat) (f g : Bool) (he : e ≤ pre.length) (hx : x = w ++ r) (hs : btw false (((pre ++ x).drop e).take (pre.length - e)) = some f) (hw : btw f w = some g) :
    btw false (((pre ++ x).drop e).take (pre.length + w.length - e)) = some g := by
  subst hx
  have e1 : ((pre ++ (w ++ r)).drop e).take (pre.length - e) = pre.drop e := by
    rw [List.drop_append, show e - pre.length = 0 from by omega, List.drop_zero, List.take_append_of_le_length (by simp), List.take_of_length_le (by simp)]
  have e2 : ((pre ++ (w ++ r)).drop e).take (pre.length + w.length - e) = pre.drop e ++ w := by
    rw [← List.append_assoc, List.drop_append, show e - (pre ++ w).length = 0 from by simp; omega, List.drop_zero, List.take_append_of_le_length (by simp), List.take_of_length_le (by simp), List.drop_append, show e - pre.length = 0 from by omega, List.drop_zero]
  rw [e1] at hs
  rw [e2, btw_append, hs]; exact hw
theorem place_at (pre x : List UInt8) (l b k n : Nat) (hi : Inv pre l b) (hn : n ≤ x.length) : Place (pre ++ x) ⟨k, x.take n, l, pre.length - b + 1, pre.length⟩ := by
  obtain ⟨h1, h2, h3⟩ := inv_at hi x
  have hb := hi.2.2
  refine ⟨h1, h2, by simp, by simp only; omega, ?_, ?_, ?_⟩
  · simp only; rw [h3]; congr 1; omega
  · simp only [List.length_take, List.length_append]; omega
  · simp only [List.length_take, List.drop_left]; rw [Nat.min_eq_left hn]
theorem lex_chain : ∀ (k : Nat) (pre x : List UInt8) (l b e : Nat) (f : Bool) (ts : List T), x.length < k → Inv pre l b → e ≤ pre.length → btw false (((pre ++ x).drop e).take (pre.length - e)) = some f → (f = true → x = [] ∨ ∃ c r, x = c :: r ∧ c.toNat = 10) →
    lex k pre.length l b x = .ok ts → Chain (pre ++ x) e ts
  | 0, _, _, _, _, _, _, _, h, _, _, _, _, _ => absurd h (by omega)
  | k + 1, pre, [], l, b, e, f, ts, _, hi, he, hs, _, h => by
    rw [lex_nil] at h; cases h
    refine ⟨place_at pre [] l b 0 0 hi (Nat.le_refl _), he, ⟨f, hs⟩, ?_⟩
    simp [Chain]
  | k + 1, pre, c :: r, l, b, e, f, ts, hk, hi, he, hs, hf, h => by
    simp only [List.length_cons] at hk
    have hpc : pre ++ c :: r = (pre ++ [c]) ++ r := by simp
    have hlc : (pre ++ [c]).length = pre.length + 1 := by simp
    rcases solid_or c with hc | hc | hc | hc
    · rw [lex_nl _ _ _ _ _ _ hc] at h
      have hw : btw f [c] = some false := by simp [btw, hc]
      have hs' := seg_step pre (c :: r) [c] r e f false he rfl hs hw
      rw [hpc] at hs' ⊢
      rw [← hlc] at h
      exact lex_chain k (pre ++ [c]) r _ _ e false ts (by omega) (by rw [hlc]; exact inv_nl hi c hc) (by omega) (by rw [hlc]; exact hs') (fun q => by cases q) h
    · rw [lex_bl _ _ _ _ _ _ hc] at h
      have hn10 : ¬ c.toNat = 10 := by simp [blank] at hc; omega
      have hn35 : ¬ c.toNat = 35 := by simp [blank] at hc; omega
      have hff : f = false := by
        cases f with
        | false => rfl
        | true => rcases hf rfl with q | ⟨d, r', q, q'⟩
                  · cases q
                  · injection q with q1 _; rw [← q1] at q'; exact absurd q' hn10
      subst hff
      have hw : btw false [c] = some false := by simp [btw, hn10, hn35, hc]
      have hs' := seg_step pre (c :: r) [c] r e false false he rfl hs hw
      rw [hpc] at hs' ⊢
      rw [← hlc] at h
      exact lex_chain k (pre ++ [c]) r _ _ e false ts (by omega) (inv_chunk hi [c] (by intro d hd; rw [List.mem_singleton] at hd; rw [hd]; simp [noNl, hn10])) (by omega) (by rw [hlc]; exact hs') (fun q => by cases q) h
    · rw [lex_rem _ _ _ _ _ _ hc] at h
      have hn10 : ¬ c.toNat = 10 := by omega
      have hff : f = false := by
        cases f with
        | false => rfl
        | true => rcases hf rfl with q | ⟨d, r', q, q'⟩
                  · cases q
                  · injection q with q1 _; rw [← q1] at q'; exact absurd q' hn10
      subst hff
      have hpos := rem_pos c r hc
      have hle := run_le noNl (c :: r)
      obtain ⟨n, hn⟩ : ∃ n, run noNl (c :: r) = n := ⟨_, rfl⟩
      rw [hn] at h hpos hle
      have hall : ∀ d ∈ (c :: r).take n, noNl d = true := by rw [← hn]; exact run_all noNl (c :: r)
      have hsplit : c :: r = (c :: r).take n ++ (c :: r).drop n := (List.take_append_drop n (c :: r)).symm
      have hlen : ((c :: r).take n).length = n := by rw [List.length_take]; omega
      have hw : btw false ((c :: r).take n) = some true := by
        obtain ⟨m, rfl⟩ : ∃ m, n = m + 1 := ⟨n - 1, by omega⟩
        rw [List.take_succ_cons] at hall ⊢
        unfold btw
        rw [if_pos hc]
        exact btw_rem _ (fun d hd => hall d (by simp [hd]))
      have hs' := seg_step pre (c :: r) ((c :: r).take n) ((c :: r).drop n) e false true he hsplit hs hw
      rw [hlen] at hs'
      have hpre : pre ++ c :: r = (pre ++ (c :: r).take n) ++ (c :: r).drop n := by rw [List.append_assoc, ← hsplit]
      have hpl : (pre ++ (c :: r).take n).length = pre.length + n := by rw [List.length_append, hlen]
      rw [hpre] at hs' ⊢
      rw [← hpl] at h
      refine lex_chain k (pre ++ (c :: r).take n) ((c :: r).drop n) _ _ e true ts (by simp; omega) (inv_chunk hi _ hall) (by omega) (by rw [hpl]; exact hs') (fun _ => ?_) h
      cases hd : (c :: r).drop n with
      | nil => exact .inl rfl
      | cons d r' =>
        refine .inr ⟨d, r', rfl, ?_⟩
        have := run_drop noNl (c :: r) d r' (by rw [hn]; exact hd)
        simpa [noNl] using this
    · rcases tok_or (c :: r) with ht | ⟨h1, h2⟩
      · rw [lex_err _ _ _ _ _ _ hc ht] at h; cases h
      · rw [lex_tok _ _ _ _ _ _ hc h1 h2] at h
        obtain ⟨us, hu, rfl⟩ := cons_ok h
        have hle := next_le (c :: r)
        have hall := tok_noNl c r hc.1
        obtain ⟨n, hn⟩ : ∃ n, (next (c :: r)).2 = n := ⟨_, rfl⟩
        rw [hn] at h1 hle hall hu ⊢
        have hsplit : c :: r = (c :: r).take n ++ (c :: r).drop n := (List.take_append_drop n (c :: r)).symm
        have hlen : ((c :: r).take n).length = n := by rw [List.length_take]; omega
        have hpre : pre ++ c :: r = (pre ++ (c :: r).take n) ++ (c :: r).drop n := by rw [List.append_assoc, ← hsplit]
        have hpl : (pre ++ (c :: r).take n).length = pre.length + n := by rw [List.length_append, hlen]
        refine ⟨place_at pre (c :: r) l b _ n hi hle, he, ⟨f, hs⟩, ?_⟩
        simp only [hlen]
        rw [hpre]
        rw [← hpl] at hu ⊢
        exact lex_chain k (pre ++ (c :: r).take n) ((c :: r).drop n) l b _ false us (by simp; omega) (inv_chunk hi _ hall) (Nat.le_refl _) (by simp [btw]) (fun q => by cases q) hu
theorem lex_errpos : ∀ (k : Nat) (pre x : List UInt8) (l b m c q : Nat), x.length < k → Inv pre l b → lex k pre.length l b x = .err m c q →
    1 ≤ m ∧ m ≤ (startsL (pre ++ x)).length ∧ 1 ≤ c ∧ c ≤ q + 1 ∧ (startsL (pre ++ x))[m - 1]? = some (q + 1 - c) ∧ ∃ d r, (pre ++ x).drop q = d :: r ∧ Solid d
  | 0, _, _, _, _, _, _, _, h, _, _ => absurd h (by omega)
  | k + 1, pre, [], l, b, m, c, q, _, hi, h => by rw [lex_nil] at h; cases h
  | k + 1, pre, d :: r, l, b, m, c, q, hk, hi, h => by
    simp only [List.length_cons] at hk
    have hpc : pre ++ d :: r = (pre ++ [d]) ++ r := by simp
    have hlc : (pre ++ [d]).length = pre.length + 1 := by simp
    have chunk : ∀ n, 0 < n → n ≤ (d :: r).length → (∀ e ∈ (d :: r).take n, noNl e = true) → lex k (pre.length + n) l b ((d :: r).drop n) = .err m c q →
        1 ≤ m ∧ m ≤ (startsL (pre ++ d :: r)).length ∧ 1 ≤ c ∧ c ≤ q + 1 ∧ (startsL (pre ++ d :: r))[m - 1]? = some (q + 1 - c) ∧ ∃ d' r', (pre ++ d :: r).drop q = d' :: r' ∧ Solid d' := by
      intro n hn hle hall hu
      have hsplit : d :: r = (d :: r).take n ++ (d :: r).drop n := (List.take_append_drop n (d :: r)).symm
      have hlen : ((d :: r).take n).length = n := by rw [List.length_take]; omega
      have hpre : pre ++ d :: r = (pre ++ (d :: r).take n) ++ (d :: r).drop n := by rw [List.append_assoc, ← hsplit]
      have hpl : (pre ++ (d :: r).take n).length = pre.length + n := by rw [List.length_append, hlen]
      rw [hpre]
      rw [← hpl] at hu
      exact lex_errpos k (pre ++ (d :: r).take n) ((d :: r).drop n) l b m c q (by simp at hle ⊢; omega) (inv_chunk hi _ hall) hu
    rcases solid_or d with hc | hc | hc | hc
    · rw [lex_nl _ _ _ _ _ _ hc] at h
      rw [hpc]
      rw [← hlc] at h
      exact lex_errpos k (pre ++ [d]) r _ _ m c q (by omega) (by rw [hlc]; exact inv_nl hi d hc) h
    · rw [lex_bl _ _ _ _ _ _ hc] at h
      have hn10 : ¬ d.toNat = 10 := by simp [blank] at hc; omega
      exact chunk 1 (by omega) (by simp) (by intro e he; simp at he; rw [he]; simp [noNl, hn10]) h
    · rw [lex_rem _ _ _ _ _ _ hc] at h
      exact chunk _ (rem_pos d r hc) (run_le noNl (d :: r)) (run_all noNl (d :: r)) h
    · rcases tok_or (d :: r) with ht | ⟨h1, h2⟩
      · rw [lex_err _ _ _ _ _ _ hc ht] at h
        injection h with e1 e2 e3
        obtain ⟨i1, i2, i3⟩ := inv_at hi (d :: r)
        have hb := hi.2.2
        subst e1; subst e2; subst e3
        refine ⟨i1, i2, by omega, by omega, by rw [i3]; congr 1; omega, d, r, by simp, hc⟩
      · rw [lex_tok _ _ _ _ _ _ hc h1 h2] at h
        exact chunk _ (Nat.pos_of_ne_zero h1) (next_le (d :: r)) (tok_noNl d r hc.1) (cons_err h)
end Go.Proofs.Ythpnhmefjdfhfaa.Tk
