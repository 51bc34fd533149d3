/- ReadScript's law, tenth part: which word a call begins with, as the program finds it. -/
import Derived.Test.YtilhlmedhgonbaaDoorLi
namespace Go.Proofs.YtilhlmedhgonbaaDoor
open Go.TM
set_option autoImplicit false
set_option linter.unusedVariables false
set_option linter.unusedSimpArgs false

def wordsL : List (List UInt8) := [[], [115, 112, 97, 119, 110], [102, 111, 114, 107], [101, 120, 105, 116], [109, 97, 112], [117, 110, 109, 97, 112], [112, 114, 111, 116, 101, 99, 116], [114, 101, 97, 100], [119, 114, 105, 116, 101], [97, 108, 108, 111, 99], [102, 114, 101, 101], [103, 101, 116], [115, 101, 116], [114, 101, 99, 108, 97, 105, 109], [99, 111, 109, 112, 97, 99, 116]]

theorem words_distinct : ∀ i j : Nat, i < 15 → j < 15 → wordsL[i]? = wordsL[j]? → i = j := by
  have h : (List.range 15).all (fun i => (List.range 15).all fun j => !(decide (wordsL[i]? = wordsL[j]?)) || decide (i = j)) = true := by decide +kernel
  intro i j hi hj he
  have h1 := List.all_eq_true.1 h i (List.mem_range.2 hi)
  have h2 := List.all_eq_true.1 h1 j (List.mem_range.2 hj)
  simpa [he] using h2

/-- the program's words: those behind the right one are other words -/
theorem other_loop {ρ : Type} (N : Nat) (p : List (List UInt8)) (w : List UInt8) (hp : geti p (0 : Int) = some w) (k0 : Bool → CallD → Option ρ) (k1 : Option ρ) :
    ∀ (d m i : Nat), d < m → i + d = 15 → (∀ j, i ≤ j → j < 15 → wordsL[j]? ≠ some w) → L17_0 N p m (i : Int) k0 k1 = k1 := by
  intro d
  induction d with
  | zero =>
    intro m i h1 h2 h3
    obtain ⟨m, rfl⟩ : ∃ q, m = q + 1 := ⟨m - 1, by omega⟩
    rw [L17_0_s]
    have hlt : decide (((i : Nat) : Int) ≤ (14 : Int)) = false := by simp; omega
    rw [hlt]
  | succ d ih =>
    intro m i h1 h2 h3
    obtain ⟨m, rfl⟩ : ∃ q, m = q + 1 := ⟨m - 1, by omega⟩
    have hil : i < wordsL.length := by show i < 15; omega
    have hlt : decide (((i : Nat) : Int) ≤ (14 : Int)) = true := by simp; omega
    have hg : geN wordsL i = some wordsL[i] := List.getElem?_eq_getElem hil
    have hw := wrap_succ (n := i) (by omega)
    have hne := h3 i (Nat.le_refl _) (by omega)
    rw [List.getElem?_eq_getElem hil] at hne
    have he : (!((w : List UInt8) == wordsL[i])) = true := by
      simp only [Bool.not_eq_true', beq_eq_false_iff_ne, ne_eq]
      intro e
      exact hne (by rw [e])
    rw [L17_0_s, hlt, hp]
    simp only []
    rw [idx_nat (by show i < 15; omega)]
    have hg' : geN (α := List UInt8) ([([] : List UInt8), ([115, 112, 97, 119, 110] : List UInt8), ([102, 111, 114, 107] : List UInt8), ([101, 120, 105, 116] : List UInt8), ([109, 97, 112] : List UInt8), ([117, 110, 109, 97, 112] : List UInt8), ([112, 114, 111, 116, 101, 99, 116] : List UInt8), ([114, 101, 97, 100] : List UInt8), ([119, 114, 105, 116, 101] : List UInt8), ([97, 108, 108, 111, 99] : List UInt8), ([102, 114, 101, 101] : List UInt8), ([103, 101, 116] : List UInt8), ([115, 101, 116] : List UInt8), ([114, 101, 99, 108, 97, 105, 109] : List UInt8), ([99, 111, 109, 112, 97, 99, 116] : List UInt8)] : List (List UInt8)) i = some wordsL[i] := hg
    rw [hg']
    simp only [he, hw]
    exact ih m (i + 1) (by omega) (by omega) (fun j g1 g2 => h3 j (by omega) g2)
end Go.Proofs.YtilhlmedhgonbaaDoor
