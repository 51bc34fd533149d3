/- ReadScript's law, thirteenth part: both ways to make a machine tell the same of what may be made. -/
import Derived.Test.YtilhlmedhgonbaaDoorLl
namespace Go.Proofs.YtilhlmedhgonbaaDoor
open Go.TM
set_option autoImplicit false
set_option linter.unusedVariables false
set_option linter.unusedSimpArgs false

/-- an answer with a flag that is set -/
def okB {α : Type} (x : Option ((α × (Bool × Unit)) × Unit)) : Bool := match x with
  | some ((_, (b, _)), _) => b
  | none => false

theorem okB_iff {α : Type} {x : Option ((α × (Bool × Unit)) × Unit)} (h : okB x = true) : ∃ v, x = some ((v, (true, ())), ()) := by
  match x, h with
  | some ((v, (b, ())), ()), h => exact ⟨v, by simp only [okB] at h; rw [h]⟩

theorem p20_8 (n : Nat) : okB (P20 (n + 5000) 8) = true := by kernel_rfl
theorem p20_16 (n : Nat) : okB (P20 (n + 5000) 16) = true := by kernel_rfl
theorem p20_24 (n : Nat) : okB (P20 (n + 5000) 24) = true := by kernel_rfl
theorem p20_32 (n : Nat) : okB (P20 (n + 5000) 32) = true := by kernel_rfl
theorem p34_8 (n : Nat) : okB (P34 (n + 5000) 8) = true := by kernel_rfl
theorem p34_16 (n : Nat) : okB (P34 (n + 5000) 16) = true := by kernel_rfl
theorem p34_24 (n : Nat) : okB (P34 (n + 5000) 24) = true := by kernel_rfl
theorem p34_32 (n : Nat) : okB (P34 (n + 5000) 32) = true := by kernel_rfl
theorem p22_8 (n : Nat) : okB (P22 (n + 5000) 8 [0, 1]) = true := by kernel_rfl
theorem p35_8 (n : Nat) : okB (P35 (n + 5000) 8 [0, 1]) = true := by kernel_rfl
theorem p22_32 (n : Nat) : okB (P22 (n + 5000) 32 [0, 1]) = true := by kernel_rfl
theorem p35_32 (n : Nat) : okB (P35 (n + 5000) 32 [0, 1]) = true := by kernel_rfl
theorem p22_16 (n : Nat) : okB (P22 (n + 5000) 16 [0, 1]) = true := by kernel_rfl
theorem p22_24 (n : Nat) : okB (P22 (n + 5000) 24 [0, 1]) = true := by kernel_rfl
theorem p35_16 (n : Nat) : okB (P35 (n + 5000) 16 [0, 1]) = true := by kernel_rfl
theorem p35_24 (n : Nat) : okB (P35 (n + 5000) 24 [0, 1]) = true := by kernel_rfl

def isz (a : Int) : Bool := decide (8 ≤ a) && (decide (a ≤ 32) && (Int.tmod a 8 == 0))

theorem isz_cases {a : Int} (h : isz a = true) : a = 8 ∨ a = 16 ∨ a = 24 ∨ a = 32 := by
  unfold isz at h
  simp only [Bool.and_eq_true, decide_eq_true_eq, beq_iff_eq] at h
  obtain ⟨h1, h2, h3⟩ := h
  rw [Int.tmod_eq_emod_of_nonneg (by omega)] at h3
  omega

theorem P27_of (N : Nat) (a : Int) : P27 N a = some ((isz a, ()), ()) := by
  rw [P27_eq, t27, P21_eq, t21]
  unfold isz
  by_cases h : 8 ≤ a
  · by_cases h2 : a ≤ 32
    · simp [h, h2]
    · simp [h, h2]
  · simp [h]

theorem P40_of (N : Nat) (a : Int) : P40 N a = some ((isz a, ()), ()) := by
  rw [P40_eq, t40, P32_eq, t32]
  unfold isz
  by_cases h : 8 ≤ a
  · by_cases h2 : a ≤ 32
    · simp [h, h2]
    · simp [h, h2]
  · simp [h]

abbrev SpaceD : Type := Bool × (Int × (List (Int × (Int × (Bool × Unit))) × Unit))
def noSpace : SpaceD := (false, (-1, ([], ())))

theorem loop12 {ρ : Type} (n j7 j9 n3 n5 : Nat) (v1 : ((List (List (Int))) × ((Bool) × (Unit))) × (Unit)) (v11 : ((List ((Int) × ((Int) × (Unit)))) × ((Bool) × (Unit))) × (Unit)) (k0 : List SpaceD → Option ρ) : L12_0 (n + 5000) j7 j9 n3 n5 v1 v11 (n + 5000) [] 0 k0 = k0 [noSpace, noSpace, noSpace, noSpace] := by kernel_rfl
theorem loop26 {ρ : Type} (n j7 j9 n3 n5 : Nat) (v1 : ((List (List (Int))) × ((Bool) × (Unit))) × (Unit)) (v11 : ((List ((Int) × ((Int) × (Unit)))) × ((Bool) × (Unit))) × (Unit)) (k0 : List SpaceD → Option ρ) : L26_0 (n + 5000) j7 j9 n3 n5 v1 v11 (n + 5000) [] 0 k0 = k0 [noSpace, noSpace, noSpace, noSpace] := by kernel_rfl

theorem new_ok12 (n : Nat) (a : Nat) (h2 : 2 ≤ a) (hb : a ≤ 32) (q1 : okB (P20 (n + 5000) (a : Int)) = true) (q3 : okB (P22 (n + 5000) (a : Int) [0, 1]) = true) (b : Int) (b0 : 0 ≤ b) (b1 : b ≤ 1000000) :
    ∃ v, P12 (n + 5000) (a : Int) b = some ((v, (decide (b ≤ 16), ())), ()) := by
  obtain ⟨u1, e1⟩ := okB_iff q1
  obtain ⟨u3, e3⟩ := okB_iff q3
  obtain ⟨m, rfl⟩ : ∃ m : Nat, b = (m : Int) := ⟨b.toNat, by omega⟩
  rw [P12_eq, t12, e1, P21_eq, t21]
  have z : decide ((m : Int) ≥ 0) = true := by simp
  simp only [z, Bool.not_true]
  by_cases hm : (m : Int) ≤ 16
  · have z2 : decide ((m : Int) ≤ 16) = true := by simpa using hm
    simp only [z2, Bool.not_true]
    have c1 : ∀ x : Nat, x ≤ 1000000 → (Nat.beq x x && Nat.ble x bnd && true) = true := by intro x hx; simp [bnd]; omega
    have i1 : ∀ (ρ : Type) (k : Nat → Option ρ), idx (List.length (α := Int) (List.replicate a (0 : Int))) (0 : Int) k = k 0 := fun ρ k => idx_nat (m := 0) (by simp; omega) k
    have i2 : ∀ (ρ : Type) (k : Nat → Option ρ), idx (List.length (α := Int) (List.set (α := Int) (List.replicate a (0 : Int)) 0 (1 : Int))) (1 : Int) k = k 1 := fun ρ k => idx_nat (m := 1) (by simp; omega) k
    have g1 : geN (α := Int) (List.replicate a (0 : Int)) 0 = some 0 := by unfold geN; rw [List.getElem?_replicate]; simp; omega
    have g2 : geN (α := Int) (List.set (α := Int) (List.replicate a (0 : Int)) 0 (1 : Int)) 1 = some 0 := by
      unfold geN
      rw [List.getElem?_set_ne (by omega), List.getElem?_replicate]
      simp; omega
    refine ⟨?v, ?h⟩
    case h =>
      show (if (Nat.beq a a && Nat.ble a bnd && true) = true then (if (Nat.beq m m && Nat.ble m bnd && true) = true then _ else none) else none) = _
      rw [if_pos (c1 a (by omega)), if_pos (c1 m (by omega))]
      refine (i1 _ _).trans ?_
      simp only [g1]
      refine (i2 _ _).trans ?_
      simp only [g2, e3]
      exact loop12 n 0 1 a m _ _ _
  · have z2 : decide ((m : Int) ≤ 16) = false := by simpa using hm
    simp only [z2, Bool.not_false]
    exact ⟨_, rfl⟩

theorem new_ok26 (n : Nat) (a : Nat) (h2 : 2 ≤ a) (hb : a ≤ 32) (q1 : okB (P34 (n + 5000) (a : Int)) = true) (q3 : okB (P35 (n + 5000) (a : Int) [0, 1]) = true) (b : Int) (b0 : 0 ≤ b) (b1 : b ≤ 1000000) :
    ∃ v, P26 (n + 5000) (a : Int) b = some ((v, (decide (b ≤ 16), ())), ()) := by
  obtain ⟨u1, e1⟩ := okB_iff q1
  obtain ⟨u3, e3⟩ := okB_iff q3
  obtain ⟨m, rfl⟩ : ∃ m : Nat, b = (m : Int) := ⟨b.toNat, by omega⟩
  rw [P26_eq, t26, e1, P32_eq, t32]
  have z : decide ((m : Int) ≥ 0) = true := by simp
  simp only [z, Bool.not_true]
  by_cases hm : (m : Int) ≤ 16
  · have z2 : decide ((m : Int) ≤ 16) = true := by simpa using hm
    simp only [z2, Bool.not_true]
    have c1 : ∀ x : Nat, x ≤ 1000000 → (Nat.beq x x && Nat.ble x bnd && true) = true := by intro x hx; simp [bnd]; omega
    have i1 : ∀ (ρ : Type) (k : Nat → Option ρ), idx (List.length (α := Int) (List.replicate a (0 : Int))) (0 : Int) k = k 0 := fun ρ k => idx_nat (m := 0) (by simp; omega) k
    have i2 : ∀ (ρ : Type) (k : Nat → Option ρ), idx (List.length (α := Int) (List.set (α := Int) (List.replicate a (0 : Int)) 0 (1 : Int))) (1 : Int) k = k 1 := fun ρ k => idx_nat (m := 1) (by simp; omega) k
    have g1 : geN (α := Int) (List.replicate a (0 : Int)) 0 = some 0 := by unfold geN; rw [List.getElem?_replicate]; simp; omega
    have g2 : geN (α := Int) (List.set (α := Int) (List.replicate a (0 : Int)) 0 (1 : Int)) 1 = some 0 := by
      unfold geN
      rw [List.getElem?_set_ne (by omega), List.getElem?_replicate]
      simp; omega
    refine ⟨?v, ?h⟩
    case h =>
      show (if (Nat.beq a a && Nat.ble a bnd && true) = true then (if (Nat.beq m m && Nat.ble m bnd && true) = true then _ else none) else none) = _
      rw [if_pos (c1 a (by omega)), if_pos (c1 m (by omega))]
      refine (i1 _ _).trans ?_
      simp only [g1]
      refine (i2 _ _).trans ?_
      simp only [g2, e3]
      exact loop26 n 0 1 a m _ _ _
  · have z2 : decide ((m : Int) ≤ 16) = false := by simpa using hm
    simp only [z2, Bool.not_false]
    exact ⟨_, rfl⟩

theorem new_eq (N : Nat) (hN : 1125899906842624 ≤ N) (a b : Int) (b0 : 0 ≤ b) (b1 : b ≤ 1000000) :
    ∃ v v' c, P12 N a b = some ((v, (c, ())), ()) ∧ P26 N a b = some ((v', (c, ())), ()) ∧ (c = true → a ≠ 0) := by
  obtain ⟨n, rfl⟩ : ∃ n, N = n + 5000 := ⟨N - 5000, by omega⟩
  cases hz : isz a
  · refine ⟨([], ([], ([], ([], ([], (0, ([], ([], ([], ([], ())))))))))), ([], ([], ([], ([], ([], (0, ([], ([], ([], ([], ())))))))))), false, ?_, ?_, fun h => by cases h⟩
    · rw [P12_eq, t12, P20_eq, t20, P27_of, hz]
      rfl
    · rw [P26_eq, t26, P34_eq, t34, P40_of, hz]
      rfl
  · have hne : a ≠ 0 := by rcases isz_cases hz with h | h | h | h <;> omega
    have : ∃ v v' c, P12 (n + 5000) a b = some ((v, (c, ())), ()) ∧ P26 (n + 5000) a b = some ((v', (c, ())), ()) := by
      rcases isz_cases hz with rfl | rfl | rfl | rfl
      · obtain ⟨v, h1⟩ := new_ok12 n 8 (by omega) (by omega) (p20_8 n) (p22_8 n) b b0 b1
        obtain ⟨v', h2⟩ := new_ok26 n 8 (by omega) (by omega) (p34_8 n) (p35_8 n) b b0 b1
        exact ⟨v, v', _, h1, h2⟩
      · obtain ⟨v, h1⟩ := new_ok12 n 16 (by omega) (by omega) (p20_16 n) (p22_16 n) b b0 b1
        obtain ⟨v', h2⟩ := new_ok26 n 16 (by omega) (by omega) (p34_16 n) (p35_16 n) b b0 b1
        exact ⟨v, v', _, h1, h2⟩
      · obtain ⟨v, h1⟩ := new_ok12 n 24 (by omega) (by omega) (p20_24 n) (p22_24 n) b b0 b1
        obtain ⟨v', h2⟩ := new_ok26 n 24 (by omega) (by omega) (p34_24 n) (p35_24 n) b b0 b1
        exact ⟨v, v', _, h1, h2⟩
      · obtain ⟨v, h1⟩ := new_ok12 n 32 (by omega) (by omega) (p20_32 n) (p22_32 n) b b0 b1
        obtain ⟨v', h2⟩ := new_ok26 n 32 (by omega) (by omega) (p34_32 n) (p35_32 n) b b0 b1
        exact ⟨v, v', _, h1, h2⟩
    obtain ⟨v, v', c, h1, h2⟩ := this
    exact ⟨v, v', c, h1, h2, fun _ => hne⟩
end Go.Proofs.YtilhlmedhgonbaaDoor
