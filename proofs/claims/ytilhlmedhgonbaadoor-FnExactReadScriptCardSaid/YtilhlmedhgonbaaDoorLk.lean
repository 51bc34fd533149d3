/- ReadScript's law, eleventh part: the words ahead of the right one. -/
import Derived.Test.YtilhlmedhgonbaaDoorLj
namespace Go.Proofs.YtilhlmedhgonbaaDoor
open Go.TM
set_option autoImplicit false
set_option linter.unusedVariables false
set_option linter.unusedSimpArgs false

/-- the program's words: those ahead of the right one are other words -/
theorem skip_loop {ρ : Type} (N : Nat) (p : List (List UInt8)) (w : List UInt8) (hp : geti p (0 : Int) = some w) (k0 : Bool → CallD → Option ρ) (k1 : Option ρ) (e : Nat) (he15 : e < 15) :
    ∀ (d m i : Nat), i + d = e → (∀ j, i ≤ j → j < e → wordsL[j]? ≠ some w) → L17_0 N p (m + d) (i : Int) k0 k1 = L17_0 N p m (e : Int) k0 k1 := by
  intro d
  induction d with
  | zero =>
    intro m i h2 h3
    obtain rfl : i = e := by omega
    rfl
  | succ d ih =>
    intro m i h2 h3
    have hmd : m + (d + 1) = (m + d) + 1 := by omega
    rw [hmd]
    have hil : i < wordsL.length := by show i < 15; omega
    have hlt : decide (((i : Nat) : Int) ≤ (14 : Int)) = true := by simp; omega
    have hg : geN wordsL i = some wordsL[i] := List.getElem?_eq_getElem hil
    have hw := wrap_succ (n := i) (by omega)
    have hne := h3 i (Nat.le_refl _) (by omega)
    rw [List.getElem?_eq_getElem hil] at hne
    have he : (!((w : List UInt8) == wordsL[i])) = true := by
      simp only [Bool.not_eq_true', beq_eq_false_iff_ne, ne_eq]
      intro e
      exact hne (by rw [e])
    rw [L17_0_s, hlt, hp]
    simp only []
    rw [idx_nat (by show i < 15; omega)]
    have hg' : geN (α := List UInt8) ([([] : List UInt8), ([115, 112, 97, 119, 110] : List UInt8), ([102, 111, 114, 107] : List UInt8), ([101, 120, 105, 116] : List UInt8), ([109, 97, 112] : List UInt8), ([117, 110, 109, 97, 112] : List UInt8), ([112, 114, 111, 116, 101, 99, 116] : List UInt8), ([114, 101, 97, 100] : List UInt8), ([119, 114, 105, 116, 101] : List UInt8), ([97, 108, 108, 111, 99] : List UInt8), ([102, 114, 101, 101] : List UInt8), ([103, 101, 116] : List UInt8), ([115, 101, 116] : List UInt8), ([114, 101, 99, 108, 97, 105, 109] : List UInt8), ([99, 111, 109, 112, 97, 99, 116] : List UInt8)] : List (List UInt8)) i = some wordsL[i] := hg
    rw [hg']
    simp only [he, hw]
    exact ih m (i + 1) (by omega) (fun j g1 g2 => h3 j (by omega) g2)
end Go.Proofs.YtilhlmedhgonbaaDoor
