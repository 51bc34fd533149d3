/- ReadScript's law, eighth part: the numbers of a call, read in both ways, are the same. -/
import Derived.Test.YtilhlmedhgonbaaDoorLg
namespace Go.Proofs.YtilhlmedhgonbaaDoor
open Go.TM
set_option autoImplicit false
set_option linter.unusedVariables false
set_option linter.unusedSimpArgs false

theorem args_loops (N : Nat) (hN : 64 ≤ N) (p : List (List UInt8)) (n : Nat) (hp : p.length = n + 1) (hn : n ≤ 4) (v : (Int × (Int × Unit)) × Unit) (hv : v.1.2.1 = (n : Int)) : ∀ (d i : Nat) (out : List Int), i + d = n → out.length = 4 →
    ∃ (r : List Int) (b : Bool), r.length = 4 ∧ ∀ (m : Nat), d < m → ∀ (ρ : Type) (k0 k1 : List Int → Option ρ), L13_0 N p v m out (i : Int) k0 k1 = cond b (k1 r) (k0 r) ∧ ∀ x58 : Int, L17_1 N p 1 x58 m out (i : Int) k0 k1 = cond b (k1 r) (k0 r) := by
  have hl : List.length (α := List UInt8) ((List.take (α := List UInt8) (List.length (α := List UInt8) p) p).drop 1) = n := by simp [hp]
  intro d
  induction d with
  | zero =>
    intro i out h1 h2
    refine ⟨out, true, h2, fun m hm ρ k0 k1 => ?_⟩
    obtain ⟨m, rfl⟩ : ∃ q, m = q + 1 := ⟨m - 1, by omega⟩
    have hlt : decide (((i : Nat) : Int) < ((n : Nat) : Int)) = false := by simp; omega
    refine ⟨?_, fun x58 => ?_⟩
    · rw [L13_0_s, hv, hlt]
      rfl
    · rw [L17_1_s, hl, hlt]
      rfl
  | succ d ih =>
    intro i out h1 h2
    have hi : i + 1 < p.length := by omega
    obtain ⟨x, b, e1, e2, _, _⟩ := readDec N hN p[i + 1]
    have hlt : decide (((i : Nat) : Int) < ((n : Nat) : Int)) = true := by simp; omega
    have hw := wrap_succ (n := i) (by omega)
    have hw2 : IntKind.i64.wrap ((1 : Int) + (i : Int)) = ((i + 1 : Nat) : Int) := by rw [Int.add_comm]; exact hw
    have hx : geti p ((i + 1 : Nat) : Int) = some p[i + 1] := by rw [geti_nat]; exact List.getElem?_eq_getElem hi
    have hy : geti ((List.take (α := List UInt8) (List.length (α := List UInt8) p) p).drop 1) (i : Int) = some p[i + 1] := by
      rw [geti_nat, List.take_length, List.getElem?_drop, Nat.add_comm 1 i]
      exact List.getElem?_eq_getElem hi
    have hg : geN out i = some (out[i]'(by omega)) := List.getElem?_eq_getElem _
    cases b with
    | false =>
      refine ⟨out, false, h2, fun m hm ρ k0 k1 => ?_⟩
      obtain ⟨m, rfl⟩ : ∃ q, m = q + 1 := ⟨m - 1, by omega⟩
      refine ⟨?_, fun x58 => ?_⟩
      · rw [L13_0_s, hv, hlt]
        simp only [hw2, hx, e1]
        rfl
      · rw [L17_1_s, hl, hlt]
        simp only [hy, e2]
        rfl
    | true =>
      obtain ⟨r, b, q1, q2⟩ := ih (i + 1) (out.set i x) (by omega) (by simpa using h2)
      refine ⟨r, b, q1, fun m hm ρ k0 k1 => ?_⟩
      obtain ⟨m, rfl⟩ : ∃ q, m = q + 1 := ⟨m - 1, by omega⟩
      obtain ⟨g1, g2⟩ := q2 m (by omega) ρ k0 k1
      refine ⟨?_, fun x58 => ?_⟩
      · rw [L13_0_s, hv, hlt]
        simp only [hw2, hx, e1, hw, Bool.not_true]
        rw [idx_nat (by omega), hg]
        exact g1
      · rw [L17_1_s, hl, hlt]
        simp only [hy, e2, hw, Bool.not_true]
        rw [idx_nat (by omega), hg]
        exact g2 x58
end Go.Proofs.YtilhlmedhgonbaaDoor
