/- The tokens of a text as plain lists of bytes: the longest token, the cutting up, and what the laws of layer 12 say of them. No program in sight. -/
namespace Go.Proofs.YthpnhmefjdfhfaaDoor.Tk

def lo (c : UInt8) : Bool := decide (97 ≤ c.toNat) && decide (c.toNat ≤ 122)
def up (c : UInt8) : Bool := decide (65 ≤ c.toNat) && decide (c.toNat ≤ 90)
def dg (c : UInt8) : Bool := decide (48 ≤ c.toNat) && decide (c.toNat ≤ 57)
def wi (c : UInt8) : Bool := lo c || dg c || decide (c.toNat = 95)
/-- what may not stand right behind a token that is no mark -/
def af (c : UInt8) : Bool := lo c || up c || dg c || decide (c.toNat = 95) || decide (c.toNat = 46)
/-- how many bytes of a kind a text begins with -/
def run (p : UInt8 → Bool) (l : List UInt8) : Nat := (l.takeWhile p).length
def part (l : List UInt8) : Nat := if run lo l = 0 then 0 else run wi l
/-- behind a part: how many bytes more the word has -/
def wordF : Nat → List UInt8 → Nat
  | 0, _ => 0
  | _ + 1, [] => 0
  | k + 1, c :: r => if c.toNat = 46 then (if part r = 0 then 0 else 1 + part r + wordF k (r.drop (part r))) else 0
def word (l : List UInt8) : Nat := if part l = 0 then 0 else part l + wordF l.length (l.drop (part l))
/-- behind digits: the point and the digits behind it -/
def frac : List UInt8 → Nat
  | [] => 0
  | c :: r => if c.toNat = 46 then (if run dg r = 0 then 0 else 1 + run dg r) else 0
def number (l : List UInt8) : Nat := if run dg l = 0 then 0 else run dg l + frac (l.drop (run dg l))
def dpos (i : Nat) (c : UInt8) : Bool := if i = 4 ∨ i = 7 then decide (c.toNat = 45) else dg c
def dall (l : List UInt8) : Bool := (List.range 10).all fun i => dpos i (l.getD i 0)
theorem dall_iff (l : List UInt8) : dall l = true ↔ ∀ i, i < 10 → dpos i (l.getD i 0) = true := by
  unfold dall; rw [List.all_eq_true]; simp only [List.mem_range]
def date (l : List UInt8) : Nat := if 10 ≤ l.length ∧ dall l = true then 10 else 0
def code (l : List UInt8) : Nat := if run up (l.take 3) = 3 then 3 else 0
def mark (l : List UInt8) : Nat :=
  match l with
  | [] => 0
  | c :: r =>
    if c.toNat = 59 ∨ c.toNat = 44 ∨ c.toNat = 40 ∨ c.toNat = 41 ∨ c.toNat = 37 then 1
    else if c.toNat = 60 ∨ c.toNat = 62 then (match r with
      | [] => 1
      | d :: _ => if d.toNat = 61 then 2 else 1)
    else 0
/-- the kind and the length of the token with which a text begins -/
def next (l : List UInt8) : Nat × Nat :=
  if 0 < mark l then (5, mark l)
  else if 0 < run lo (l.take 1) then (1, word l)
  else if 0 < run up (l.take 1) then (2, code l)
  else if 0 < date l then (4, date l)
  else (3, number l)
/-- something stands right behind that may not -/
def stuck (k : Nat) (l : List UInt8) : Bool := decide (k ≠ 5) && (match l with | [] => false | c :: _ => af c)

structure T where
  kind : Nat
  text : List UInt8
  line : Nat
  col : Nat
  pos : Nat
inductive R where
  | err (line col pos : Nat)
  | ok (l : List T)
def R.cons (t : T) : R → R
  | .err l c p => .err l c p
  | .ok l => .ok (t :: l)

def blank (c : UInt8) : Bool := decide (c.toNat = 32) || decide (c.toNat = 9) || decide (c.toNat = 13)
def noNl (c : UInt8) : Bool := decide (c.toNat ≠ 10)

/-- the tokens of what is left (fuel: as many as there are bytes, and one): p bytes lie behind; the line l begins at b -/
def lex : Nat → Nat → Nat → Nat → List UInt8 → R
  | 0, _, _, _, _ => .ok []
  | _ + 1, p, l, b, [] => .ok [⟨0, [], l, p - b + 1, p⟩]
  | k + 1, p, l, b, c :: r =>
    if c.toNat = 10 then lex k (p + 1) (l + 1) (p + 1) r
    else if blank c = true then lex k (p + 1) l b r
    else if c.toNat = 35 then lex k (p + run noNl (c :: r)) l b ((c :: r).drop (run noNl (c :: r)))
    else if (next (c :: r)).2 = 0 ∨ stuck (next (c :: r)).1 ((c :: r).drop (next (c :: r)).2) = true then .err l (p - b + 1) p
    else (lex k (p + (next (c :: r)).2) l b ((c :: r).drop (next (c :: r)).2)).cons ⟨(next (c :: r)).1, (c :: r).take (next (c :: r)).2, l, p - b + 1, p⟩

/-! ### runs -/
theorem run_le (p : UInt8 → Bool) (l : List UInt8) : run p l ≤ l.length := by
  unfold run; exact (List.takeWhile_sublist p).length_le
theorem run_nil (p : UInt8 → Bool) : run p [] = 0 := rfl
theorem run_cons (p : UInt8 → Bool) (c : UInt8) (r : List UInt8) : run p (c :: r) = if p c = true then run p r + 1 else 0 := by
  unfold run; rw [List.takeWhile_cons]; split <;> simp
theorem run_append_all (p : UInt8 → Bool) : ∀ (a x : List UInt8), run p a = a.length → run p (a ++ x) = a.length + run p x
  | [], x, _ => by simp
  | c :: a, x, h => by
    rw [run_cons] at h
    by_cases hc : p c = true
    · rw [if_pos hc] at h
      simp only [List.length_cons] at h
      rw [List.cons_append, run_cons, if_pos hc, run_append_all p a x (by omega)]
      simp; omega
    · rw [if_neg hc] at h; simp at h
/-- a byte at which the run ends keeps what is behind it out -/
theorem run_sep (p : UInt8 → Bool) (c : UInt8) (hc : p c = false) : ∀ (a x : List UInt8), run p (a ++ c :: x) = run p a
  | [], x => by rw [List.nil_append, run_cons, run_nil]; simp [hc]
  | d :: a, x => by rw [List.cons_append, run_cons, run_cons, run_sep p c hc a x]
theorem run_drop (p : UInt8 → Bool) : ∀ (l : List UInt8), ∀ d x, l.drop (run p l) = d :: x → p d = false
  | [], d, x, h => by simp at h
  | c :: r, d, x, h => by
    rw [run_cons] at h
    by_cases hc : p c = true
    · rw [if_pos hc] at h; exact run_drop p r d x (by simpa using h)
    · rw [if_neg hc] at h; simp at h; rw [← h.1]; simpa using hc
theorem run_take (p : UInt8 → Bool) : ∀ (l : List UInt8) (n : Nat), run p (l.take n) = min n (run p l)
  | [], n => by simp [run_nil]
  | c :: r, 0 => by simp [run_nil]
  | c :: r, n + 1 => by
    rw [List.take_succ_cons, run_cons, run_cons]
    split
    · rw [run_take p r n]; omega
    · omega
theorem run_all (p : UInt8 → Bool) : ∀ (l : List UInt8), ∀ c ∈ l.take (run p l), p c = true
  | [], c, h => by simp at h
  | d :: r, c, h => by
    rw [run_cons] at h
    by_cases hd : p d = true
    · rw [if_pos hd] at h
      simp only [List.take_succ_cons, List.mem_cons] at h
      rcases h with h | h
      · rw [h]; exact hd
      · exact run_all p r c h
    · rw [if_neg hd] at h; simp at h
theorem run_full (p : UInt8 → Bool) : ∀ (l : List UInt8), (∀ c ∈ l, p c = true) → run p l = l.length
  | [], _ => rfl
  | c :: r, h => by
    rw [run_cons, if_pos (h c (by simp)), run_full p r (fun d hd => h d (by simp [hd]))]; rfl

/-! ### sizes -/
theorem part_le (l : List UInt8) : part l ≤ l.length := by unfold part; split; exact Nat.zero_le _; exact run_le _ _
theorem wordF_le : ∀ (k : Nat) (l : List UInt8), wordF k l ≤ l.length
  | 0, l => Nat.zero_le _
  | k + 1, [] => Nat.zero_le _
  | k + 1, c :: r => by
    unfold wordF
    split
    · split
      · omega
      · have := wordF_le k (r.drop (part r)); have := part_le r; simp only [List.length_drop, List.length_cons] at *; omega
    · omega
theorem word_le (l : List UInt8) : word l ≤ l.length := by
  unfold word
  split
  · omega
  · have := wordF_le l.length (l.drop (part l)); have := part_le l; simp only [List.length_drop] at *; omega
theorem frac_le (l : List UInt8) : frac l ≤ l.length := by
  cases l with
  | nil => exact Nat.zero_le _
  | cons c r => unfold frac; have := run_le dg r; simp only [List.length_cons]; split <;> (try split) <;> omega
theorem number_le (l : List UInt8) : number l ≤ l.length := by
  unfold number
  split
  · omega
  · have := frac_le (l.drop (run dg l)); have := run_le dg l; simp only [List.length_drop] at *; omega
theorem date_le (l : List UInt8) : date l ≤ l.length := by
  unfold date; split
  · rename_i h; exact h.1
  · omega
theorem code_le (l : List UInt8) : code l ≤ l.length := by
  unfold code; split
  · rename_i h
    have := run_le up (l.take 3)
    rw [List.length_take] at this; omega
  · omega
theorem mark_le (l : List UInt8) : mark l ≤ l.length := by
  unfold mark; split
  · omega
  · split
    · simp
    · split
      · split
        · simp
        · split <;> simp
      · omega
theorem next_le (l : List UInt8) : (next l).2 ≤ l.length := by
  unfold next
  split
  · exact mark_le l
  · split
    · exact word_le l
    · split
      · exact code_le l
      · split
        · exact date_le l
        · exact number_le l
end Go.Proofs.YthpnhmefjdfhfaaDoor.Tk
