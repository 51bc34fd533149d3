/- ReadScript's law, seventh part: the numbers that are written into the calls are the numbers that are found there. -/
import Derived.Test.YtilhlmedhgonbaaDoorLf
namespace Go.Proofs.YtilhlmedhgonbaaDoor
open Go.TM
set_option autoImplicit false
set_option linter.unusedVariables false
set_option linter.unusedSimpArgs false

/-- n calls, numbered from x on -/
def nums (x : Int) : Nat → List CallD
  | 0 => []
  | n + 1 => (x, (x + 1, (x + 2, (x + 3, (x + 4, ()))))) :: nums (x + 5) n

theorem geN_set {α : Type} {l : List α} {i : Nat} (h : i < l.length) (v : α) : geN (l.set i v) i = some v := by
  unfold geN
  rw [List.getElem?_set_self h]

theorem mark_loop {ρ : Type} (N : Nat) (k0 : Int → List CallD → Option ρ) : ∀ (m i : Nat) (x : Int) (l : List CallD), l.length < m + i → i ≤ l.length → l.length ≤ 100000 → 0 ≤ x → x + 5 * ((l.length : Int) - i) ≤ 1000000000 →
    L7_0 N m l x (i : Int) k0 = k0 (x + 5 * ((l.length : Int) - i)) (l.take i ++ nums x (l.length - i)) := by
  intro m
  induction m with
  | zero => intro i x l h1 h2; omega
  | succ m ih =>
    intro i x l h1 h2 h3 h4 h5
    rw [L7_0_s]
    by_cases hi : i = l.length
    · have hlt : decide (((i : Nat) : Int) < ((l.length : Nat) : Int)) = false := by simp; omega
      rw [hlt]
      have e : l.length - i = 0 := by omega
      rw [e, hi, List.take_length]
      simp [nums]
    · have hil : i < l.length := by omega
      have hlt : decide (((i : Nat) : Int) < ((l.length : Nat) : Int)) = true := by simp; omega
      have hg : geN l i = some l[i] := List.getElem?_eq_getElem hil
      have hw := wrap_succ (n := i) (by omega)
      have w1 : IntKind.i64.wrap (x + 1) = x + 1 := wrap64 (by omega) (by omega)
      have w2 : IntKind.i64.wrap (x + 1 + 1) = x + 2 := by rw [wrap64 (by omega) (by omega)]; omega
      have w3 : IntKind.i64.wrap (x + 2 + 1) = x + 3 := by rw [wrap64 (by omega) (by omega)]; omega
      have w4 : IntKind.i64.wrap (x + 3 + 1) = x + 4 := by rw [wrap64 (by omega) (by omega)]; omega
      have w5 : IntKind.i64.wrap (x + 4 + 1) = x + 5 := by rw [wrap64 (by omega) (by omega)]; omega
      rw [hlt]
      simp only [w1, w2, w3, w4, w5, hw, List.length_set]
      simp only [idx_nat hil, hg, geN_set hil, List.set_set, List.length_set]
      refine (ih (i + 1) (x + 5) (l.set i (x, (x + 1, (x + 2, (x + 3, (x + 4, ())))))) (by rw [List.length_set]; omega) (by rw [List.length_set]; omega) (by rw [List.length_set]; omega) (by omega) (by rw [List.length_set]; omega)).trans ?_
      rw [List.length_set]
      have e1 : x + 5 + 5 * ((l.length : Int) - ((i + 1 : Nat) : Int)) = x + 5 * ((l.length : Int) - i) := by omega
      have e2 : l.length - i = (l.length - (i + 1)) + 1 := by omega
      rw [e1, e2, List.take_succ_eq_append_getElem (by rw [List.length_set]; exact hil), List.take_set_of_le (Nat.le_refl i)]
      simp [nums]

theorem held_loop {ρ : Type} (N : Nat) (l : List CallD) (hl : l.length ≤ 100000) (k0 k1 : Int → Option ρ) : ∀ (n m i : Nat) (x : Int), n < m → i + n = l.length → l.drop i = nums x n → 0 ≤ x → x + 5 * n ≤ 1000000000 →
    L8_0 N l m x (i : Int) k0 k1 = k1 (x + 5 * n) := by
  intro n
  induction n with
  | zero =>
    intro m i x h1 h2 h3 h4 h5
    obtain ⟨m, rfl⟩ : ∃ q, m = q + 1 := ⟨m - 1, by omega⟩
    rw [L8_0_s]
    have hlt : decide (((i : Nat) : Int) < ((l.length : Nat) : Int)) = false := by simp; omega
    rw [hlt]
    simp
  | succ n ih =>
    intro m i x h1 h2 h3 h4 h5
    obtain ⟨m, rfl⟩ : ∃ q, m = q + 1 := ⟨m - 1, by omega⟩
    have hil : i < l.length := by omega
    rw [List.drop_eq_getElem_cons hil] at h3
    simp only [nums, List.cons.injEq] at h3
    obtain ⟨g1, g2⟩ := h3
    have hlt : decide (((i : Nat) : Int) < ((l.length : Nat) : Int)) = true := by simp; omega
    have hx : geti l ((i : Nat) : Int) = some (x, (x + 1, (x + 2, (x + 3, (x + 4, ()))))) := by rw [geti_nat, List.getElem?_eq_getElem hil, g1]
    have hw := wrap_succ (n := i) (by omega)
    have w1 : IntKind.i64.wrap (x + 1) = x + 1 := wrap64 (by omega) (by omega)
    have w2 : IntKind.i64.wrap (x + 1 + 1) = x + 2 := by rw [wrap64 (by omega) (by omega)]; omega
    have w3 : IntKind.i64.wrap (x + 2 + 1) = x + 3 := by rw [wrap64 (by omega) (by omega)]; omega
    have w4 : IntKind.i64.wrap (x + 3 + 1) = x + 4 := by rw [wrap64 (by omega) (by omega)]; omega
    have w5 : IntKind.i64.wrap (x + 4 + 1) = x + 5 := by rw [wrap64 (by omega) (by omega)]; omega
    rw [L8_0_s, hlt]
    simp only [hx, w1, w2, w3, w4, w5, hw, bne_yes]
    refine (ih m (i + 1) (x + 5) (by omega) (by omega) g2 (by omega) (by omega)).trans ?_
    congr 1
    omega

/-- what is marked is held -/
theorem marked (N : Nat) (hN : 1125899906842624 ≤ N) (l : List CallD) (hl : l.length ≤ 100000) : ∃ (q : Int) (l' : List CallD), 0 ≤ q ∧ P7 N l 1 = some ((q, ()), (l', ())) ∧ P8 N l' 1 = some ((q, ()), ()) := by
  refine ⟨1 + 5 * (l.length : Int), nums 1 l.length, by omega, ?_, ?_⟩
  · rw [P7_eq, t7]
    refine (mark_loop N (fun w77 w78 => some ((w77, ()), (w78, ()))) N 0 1 l (by omega) (Nat.zero_le _) hl (by omega) (by simp; omega)).trans ?_
    simp
  · have hn : ∀ (n : Nat) (x : Int), (nums x n).length = n := by
      intro n
      induction n with
      | zero => intro x; rfl
      | succ n ih => intro x; simp [nums, ih]
    rw [P8_eq, t8]
    exact held_loop N (nums 1 l.length) (by rw [hn]; exact hl) (fun _ => some (((-1 : Int), ()), ())) (fun w44 => some ((w44, ()), ())) l.length N 0 1 (by omega) (by rw [hn]; omega) (by simp) (by omega) (by omega)
end Go.Proofs.YtilhlmedhgonbaaDoor
