/- Where the lines of a text begin. -/
import Derived.Test.YthpnhmefjdfhfaaTkThms
namespace Go.Proofs.Ythpnhmefjdfhfaa.Tk

/-- where the lines behind the first one begin -/
def nlp : Nat → List UInt8 → List Nat
  | _, [] => []
  | i, c :: r => if c.toNat = 10 then (i + 1) :: nlp (i + 1) r else nlp (i + 1) r
def startsL (x : List UInt8) : List Nat := 0 :: nlp 0 x
theorem nlp_len : ∀ (i : Nat) (x : List UInt8), (nlp i x).length = nls x
  | _, [] => rfl
  | i, c :: r => by
    unfold nlp
    rw [nls_cons]
    by_cases h : c.toNat = 10
    · rw [if_pos h, if_pos h, List.length_cons, nlp_len (i + 1) r]
    · rw [if_neg h, if_neg h, nlp_len (i + 1) r]; rfl
theorem starts_len (x : List UInt8) : (startsL x).length = nls x + 1 := by simp [startsL, nlp_len]
theorem nl_eq {c : UInt8} (h : c.toNat = 10) : c = 10 := UInt8.toNat_inj.1 h
theorem nlp_get : ∀ (x : List UInt8) (i j : Nat), j < nls x → ∃ pre y, x = pre ++ 10 :: y ∧ nls pre = j ∧ (nlp i x)[j]? = some (i + pre.length + 1)
  | [], _, _, h => by simp [nls] at h
  | c :: r, i, j, h => by
    rw [nls_cons] at h
    unfold nlp
    by_cases hc : c.toNat = 10
    · rw [if_pos hc] at h ⊢
      cases j with
      | zero => exact ⟨[], r, by rw [nl_eq hc]; rfl, rfl, rfl⟩
      | succ j =>
        obtain ⟨pre, y, h1, h2, h3⟩ := nlp_get r (i + 1) j (by omega)
        refine ⟨c :: pre, y, by rw [h1]; rfl, by rw [nls_cons, if_pos hc, h2], ?_⟩
        rw [List.getElem?_cons_succ, h3]; simp; omega
    · rw [if_neg hc] at h ⊢
      obtain ⟨pre, y, h1, h2, h3⟩ := nlp_get r (i + 1) j (by omega)
      refine ⟨c :: pre, y, by rw [h1]; rfl, by rw [nls_cons, if_neg hc, h2]; rfl, ?_⟩
      rw [h3]; simp; omega
end Go.Proofs.Ythpnhmefjdfhfaa.Tk
