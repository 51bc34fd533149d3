/- ReadScript's law, ninth part: which word a call begins with, as the reference finds it. -/
import Derived.Test.YtilhlmedhgonbaaDoorLh
namespace Go.Proofs.YtilhlmedhgonbaaDoor
open Go.TM
set_option autoImplicit false
set_option linter.unusedVariables false
set_option linter.unusedSimpArgs false

def sizes : List Int := [0, 0, 1, 1, 4, 3, 4, 3, 4, 1, 1, 2, 3, 1, 1]

theorem word_loop {ρ : Type} (N : Nat) (w : List UInt8) (v : (List (List UInt8) × Unit) × Unit) (W : List (List UInt8)) (hv : v.1.1 = W) (hW : W.length = 15) (k0 : Int → Int → Option ρ) (k1 : Option ρ) :
    ∀ (d m i : Nat), d < m → i + d = 15 → (∃ j, i ≤ j ∧ j < 15 ∧ W[j]? = some w ∧ L23_0 N w v m (i : Int) k0 k1 = k0 (j : Int) (sizes.getD j 0)) ∨ ((∀ j, i ≤ j → j < 15 → W[j]? ≠ some w) ∧ L23_0 N w v m (i : Int) k0 k1 = k1) := by
  intro d
  induction d with
  | zero =>
    intro m i h1 h2
    obtain ⟨m, rfl⟩ : ∃ q, m = q + 1 := ⟨m - 1, by omega⟩
    right
    refine ⟨fun j q1 q2 => by omega, ?_⟩
    rw [L23_0_s, hv]
    have hlt : decide (((i : Nat) : Int) < ((W.length : Nat) : Int)) = false := by simp; omega
    rw [hlt]
  | succ d ih =>
    intro m i h1 h2
    obtain ⟨m, rfl⟩ : ∃ q, m = q + 1 := ⟨m - 1, by omega⟩
    have hil : i < W.length := by omega
    have hlt : decide (((i : Nat) : Int) < ((W.length : Nat) : Int)) = true := by simp; omega
    have hg : geN W i = some W[i] := List.getElem?_eq_getElem hil
    have hw := wrap_succ (n := i) (by omega)
    rw [L23_0_s, hv, hlt]
    simp only []
    rw [idx_nat hil, hg]
    simp only [hw]
    cases he : ((W[i] : List UInt8) == w)
    · have hne : W[i] ≠ w := by intro e; rw [e] at he; simp at he
      rcases ih m (i + 1) (by omega) (by omega) with ⟨j, q1, q2, q3, q4⟩ | ⟨q1, q2⟩
      · exact .inl ⟨j, by omega, q2, q3, q4⟩
      · refine .inr ⟨fun j g1 g2 => ?_, q2⟩
        by_cases hj : j = i
        · subst hj
          rw [List.getElem?_eq_getElem hil]
          simpa using hne
        · exact q1 j (by omega) g2
    · have heq : W[i] = w := eq_of_beq he
      left
      refine ⟨i, Nat.le_refl _, by omega, by rw [List.getElem?_eq_getElem hil, heq], ?_⟩
      simp only []
      rw [idx_nat (by simp; omega)]
      have hs : geN ([0, 0, 1, 1, 4, 3, 4, 3, 4, 1, 1, 2, 3, 1, 1] : List Int) i = some (sizes.getD i 0) := by
        unfold geN sizes
        rw [List.getD_eq_getElem?_getD, List.getElem?_eq_getElem (by simp; omega)]
        rfl
      rw [hs]
end Go.Proofs.YtilhlmedhgonbaaDoor
