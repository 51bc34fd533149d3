/- ShowAnswer's law over the pure functions: both ways to write an answer tell the same letters, for every answer of two 64-bit whole numbers. -/
import Derived.Test.YtilhlmedhgonbaaA
import Derived.OpenShut
namespace Go.Proofs.Ytilhlmedhgonbaa
open Go.TM
set_option autoImplicit false
set_option linter.unusedVariables false

theorem wrap64_id {x : Int} (h1 : -9223372036854775808 ≤ x) (h2 : x ≤ 9223372036854775807) : IntKind.i64.wrap x = x := by
  simp [IntKind.wrap, IntKind.signed, IntKind.bits]
  split <;> omega

theorem wrap8_id {x : Int} (h1 : 0 ≤ x) (h2 : x ≤ 255) : IntKind.u8.wrap x = x := by
  simp [IntKind.wrap, IntKind.signed, IntKind.bits]
  omega

/-- one digit, in the words of the two functions -/
noncomputable def dig (x : Int) : List UInt8 := match decide (Int.tmod x 10 < 0) with
  | true => List.map (fun n : Int => UInt8.ofNat n.toNat) ([(IntKind.u8.wrap (IntKind.i64.wrap ((48 : Int) + (IntKind.i64.wrap ((0 : Int) - (Int.tmod x (10 : Int)))))))] : List (Int))
  | false => List.map (fun n : Int => UInt8.ofNat n.toNat) ([(IntKind.u8.wrap (IntKind.i64.wrap ((48 : Int) + (Int.tmod x (10 : Int)))))] : List (Int))

theorem dig_len (x : Int) : (dig x).length = 1 := by unfold dig; split <;> rfl

theorem dig_zero : dig 0 = [48] := by decide +kernel

theorem P37_of (N : Nat) (x : Int) : P37 N x (-9) 9 = some ((decide (-9 ≤ x ∧ x ≤ 9), ()), ()) := by
  rw [P37_eq, t37]
  by_cases h : -9 ≤ x
  · simp [h]
  · simp [h]

theorem L13_step {ρ : Type} (N m : Nat) (a x : Int) (out : List UInt8) (k0 : List UInt8 → Option ρ) (hx : x ≠ 0) (ho : out.length + 1 ≤ bnd) :
    L13_0 N a (m + 1) x out k0 = L13_0 N a m (IntKind.i64.wrap (Int.tdiv x 10)) (dig x ++ out) k0 := by
  have hb : ((x : Int) != 0) = true := by simpa using hx
  rw [L13_0, hb]
  unfold dig
  cases hd : decide (Int.tmod x 10 < 0) <;> (simp only []; rw [if_pos (by simp; omega)]; rfl)

theorem L14_step {ρ : Type} (N m : Nat) (a x : Int) (out : List UInt8) (k0 : List UInt8 → Option ρ) (ho : out.length + 1 ≤ bnd) :
    L14_0 N a (m + 1) out x k0 = match decide (-9 ≤ x ∧ x ≤ 9) with
      | true => k0 (dig x ++ out)
      | false => L14_0 N a m (dig x ++ out) (IntKind.i64.wrap (Int.tdiv x 10)) k0 := by
  rw [L14_0]
  unfold dig
  cases hd : decide (Int.tmod x 10 < 0) <;> (simp only [P37_of]; rw [if_pos (by simp; omega)]; rfl)

theorem L13_end {ρ : Type} (N m : Nat) (a : Int) (out : List UInt8) (k0 : List UInt8 → Option ρ) : L13_0 N a (m + 1) 0 out k0 = k0 out := by
  rw [L13_0]; rfl

theorem tdiv_abs (x : Int) : (Int.tdiv x 10).natAbs = x.natAbs / 10 := by rw [Int.natAbs_tdiv]; rfl

/-- both loops tell the same list -/
theorem digits_same (a : Int) : ∀ (j : Nat) (x : Int) (out : List UInt8), x ≠ 0 → -9223372036854775808 ≤ x → x ≤ 9223372036854775807 → (x.natAbs < 10 ^ (j + 1)) → out.length + j + 1 ≤ 1000 →
    ∃ r : List UInt8, r.length ≤ out.length + j + 1 ∧ ∀ (N m : Nat), j + 1 ≤ m → ∀ (ρ : Type) (k0 : List UInt8 → Option ρ), L13_0 N a (m + 1) x out k0 = k0 r ∧ L14_0 N a m out x k0 = k0 r := by
  intro j
  induction j with
  | zero =>
    intro x out hx h1 h2 hj ho
    have hb : out.length + 1 ≤ bnd := by simp [bnd]; omega
    refine ⟨dig x ++ out, by simp [dig_len]; omega, fun N m hm ρ k0 => ?_⟩
    obtain ⟨m, rfl⟩ : ∃ n, m = n + 1 := ⟨m - 1, by omega⟩
    have hd : Int.tdiv x 10 = 0 := by have := tdiv_abs x; omega
    rw [L13_step N _ a x out k0 hx hb, L14_step N _ a x out k0 hb, hd]
    have : IntKind.i64.wrap 0 = 0 := by decide +kernel
    rw [this, L13_end]
    have hin : decide (-9 ≤ x ∧ x ≤ 9) = true := by simp; omega
    rw [hin]
    exact ⟨rfl, rfl⟩
  | succ j ih =>
    intro x out hx h1 h2 hj ho
    have hb : out.length + 1 ≤ bnd := by simp [bnd]; omega
    have ht := tdiv_abs x
    have hw : IntKind.i64.wrap (Int.tdiv x 10) = Int.tdiv x 10 := wrap64_id (by omega) (by omega)
    by_cases hin : -9 ≤ x ∧ x ≤ 9
    · refine ⟨dig x ++ out, by simp [dig_len]; omega, fun N m hm ρ k0 => ?_⟩
      obtain ⟨m, rfl⟩ : ∃ n, m = n + 1 := ⟨m - 1, by omega⟩
      have hd : Int.tdiv x 10 = 0 := by have := tdiv_abs x; omega
      rw [L13_step N _ a x out k0 hx hb, L14_step N _ a x out k0 hb, hw, hd, L13_end]
      have hin' : decide (-9 ≤ x ∧ x ≤ 9) = true := by simpa using hin
      rw [hin']
      exact ⟨rfl, rfl⟩
    · have hlt : (Int.tdiv x 10).natAbs < 10 ^ (j + 1) := by
        rw [ht]
        have : 10 ^ (j + 1 + 1) = 10 ^ (j + 1) * 10 := Nat.pow_succ ..
        omega
      obtain ⟨r, hr, hk⟩ := ih (Int.tdiv x 10) (dig x ++ out) (by omega) (by omega) (by omega) hlt (by simp [dig_len]; omega)
      refine ⟨r, by simp [dig_len] at hr; omega, fun N m hm ρ k0 => ?_⟩
      obtain ⟨m, rfl⟩ : ∃ n, m = n + 1 := ⟨m - 1, by omega⟩
      rw [L13_step N _ a x out k0 hx hb, L14_step N _ a x out k0 hb, hw]
      have hin' : decide (-9 ≤ x ∧ x ≤ 9) = false := by simpa using hin
      rw [hin']
      exact hk N m (by omega) ρ k0

/-- the two Decimals tell the same -/
theorem decimals (N : Nat) (hN : 64 ≤ N) (a : Int) (ha : (Lit.int .i64 a).wf = true) : ∃ r : List UInt8, r.length ≤ 100 ∧ P13 N a = some ((r, ()), ()) ∧ P14 N a = some ((r, ()), ()) := by
  obtain ⟨h1, h2⟩ : -9223372036854775808 ≤ a ∧ a ≤ 9223372036854775807 := by
    simp [Lit.wf, IntKind.min, IntKind.max, IntKind.signed, IntKind.bits] at ha
    omega
  rw [P13_eq, P14_eq, t13, t14]
  obtain ⟨N, rfl⟩ : ∃ n, N = n + 1 := ⟨N - 1, by omega⟩
  by_cases hz : a = 0
  · subst hz
    refine ⟨[48], by simp, rfl, ?_⟩
    rw [L14_step _ _ _ _ _ _ (by simp [bnd]), dig_zero]
    rfl
  · have hlt : a.natAbs < 10 ^ (18 + 1) := by
      have : (10 : Nat) ^ (18 + 1) = 10000000000000000000 := by decide +kernel
      omega
    obtain ⟨r, hr, hk⟩ := digits_same a 18 a [] hz h1 h2 hlt (by simp)
    have hb : ((a : Int) == 0) = false := by simpa using hz
    have e13 := fun (ρ : Type) (k0 : List UInt8 → Option ρ) => ((hk (N + 1) N (by omega) ρ k0).1)
    have e14 := fun (ρ : Type) (k0 : List UInt8 → Option ρ) => ((hk (N + 1) (N + 1) (by omega) ρ k0).2)
    rw [hb]
    simp only [e13, e14]
    cases hd : decide (a < 0)
    · exact ⟨r, by simp at hr; omega, rfl, rfl⟩
    · refine ⟨List.append [45] r, by simp at hr ⊢; omega, ?_, ?_⟩
      all_goals
        show (if _ then _ else _) = _
        rw [if_pos]
        simp [bnd] at hr ⊢
        omega

/-- ShowAnswer's law, of all answers -/
theorem P3_true (N : Nat) (hN : 64 ≤ N) (a : Int × (Int × Unit)) (h1 : (Lit.int .i64 a.1).wf = true) (h2 : (Lit.int .i64 a.2.1).wf = true) : P3 N a = some ((true, ()), ()) := by
  obtain ⟨r1, l1, e1, f1⟩ := decimals N hN a.1 h1
  obtain ⟨r2, l2, e2, f2⟩ := decimals N hN a.2.1 h2
  rw [P3_eq, t3]
  simp only [P6_eq, t6, P5_eq, P7_eq, t5, t7, e1, f1, e2, f2]
  cases hb1 : (a.1 != 0)
  · cases hb2 : (a.2.1 != 0)
    · rfl
    · simp only []
      rw [if_pos (by simp [bnd]; omega)]
      simp
  · simp only []
    rw [if_pos (by simp [bnd]; omega)]
    simp
end Go.Proofs.Ytilhlmedhgonbaa
