/- ReadScript's law, sixth part: the comparing of two lists of calls. -/
import Derived.Test.YtilhlmedhgonbaaDoorC
import Derived.Test.YtilhlmedhgonbaaDoorLe
namespace Go.Proofs.YtilhlmedhgonbaaDoor
open Go.TM
set_option autoImplicit false
set_option linter.unusedVariables false
set_option linter.unusedSimpArgs false
abbrev CallD : Type := Int × (Int × (Int × (Int × (Int × Unit))))

theorem bne_no {a b : Int} (h : ¬ a = b) : (a != b) = true := by simpa using h
theorem bne_yes (a : Int) : (a != a) = false := by simp

theorem tells18 (N : Nat) (a b : CallD) : Tells (P18 N a b) (a = b) := by
  rw [P18_eq, t18]
  obtain ⟨a1, a2, a3, a4, a5, ⟨⟩⟩ := a
  obtain ⟨b1, b2, b3, b4, b5, ⟨⟩⟩ := b
  dsimp only
  by_cases h1 : a1 = b1
  rotate_left
  · rw [bne_no h1]
    exact tells_false rfl (fun h => h1 (by simp only [Prod.mk.injEq] at h; exact h.1))
  subst h1
  rw [bne_yes]
  dsimp only
  by_cases h2 : a2 = b2
  rotate_left
  · rw [bne_no h2]
    exact tells_false rfl (fun h => h2 (by simp only [Prod.mk.injEq] at h; exact h.2.1))
  subst h2
  rw [bne_yes]
  dsimp only
  by_cases h3 : a3 = b3
  rotate_left
  · rw [bne_no h3]
    exact tells_false rfl (fun h => h3 (by simp only [Prod.mk.injEq] at h; exact h.2.2.1))
  subst h3
  rw [bne_yes]
  dsimp only
  by_cases h4 : a4 = b4
  rotate_left
  · rw [bne_no h4]
    exact tells_false rfl (fun h => h4 (by simp only [Prod.mk.injEq] at h; exact h.2.2.2.1))
  subst h4
  rw [bne_yes]
  dsimp only
  by_cases h5 : a5 = b5
  rotate_left
  · rw [bne_no h5]
    exact tells_false rfl (fun h => h5 (by simp only [Prod.mk.injEq] at h; exact h.2.2.2.2.1))
  subst h5
  rw [bne_yes]
  exact tells_true rfl rfl

theorem tells6 (N : Nat) (hN : 1125899906842624 ≤ N) (a b : List CallD) (ha : a.length ≤ reachBytes) : Tells (P6 N a b) (a = b) := by
  rw [P6_eq]
  have hR : reachBytes = 140737488351232 := rfl
  refine eq_list hN ha (fun m i => L6_0 N a b m i (some ((false, ()), ())) (some ((true, ()), ()))) (by rw [t6]; rfl) ?_ ?_
  · intro m
    show L6_0 N a b (m + 1) _ _ _ = _
    rw [L6_0_s]
    have hlt : decide (((a.length : Nat) : Int) < ((a.length : Nat) : Int)) = false := by simp
    rw [hlt]
  · intro m i x y hi hx hy
    have hlt : decide (((i : Nat) : Int) < ((a.length : Nat) : Int)) = true := by simpa using hi
    show (x = y → L6_0 N a b (m + 1) _ _ _ = L6_0 N a b m _ _ _) ∧ (x ≠ y → L6_0 N a b (m + 1) _ _ _ = _)
    have hw := wrap_succ (n := i) (by omega)
    obtain ⟨v, hv, hiff⟩ := tells18 N x y
    rw [L6_0_s, hlt]
    simp only [geti_nat, hx, hy, hv, hw]
    cases v
    · exact ⟨fun h => absurd (hiff.2 h) (by simp), fun _ => rfl⟩
    · exact ⟨fun _ => rfl, fun h => absurd (hiff.1 rfl) h⟩
end Go.Proofs.YtilhlmedhgonbaaDoor
