/- ReadScript's law, first part: both ways to read and to write a whole number tell the same. -/
import Derived.Test.YtilhlmedhgonbaaDoorB
import Derived.OpenShut
namespace Go.Proofs.YtilhlmedhgonbaaDoor
open Go.TM
set_option autoImplicit false
set_option linter.unusedVariables false

/-- one digit, in the words of the two functions -/
noncomputable def dig (x : Int) : List UInt8 := match decide (Int.tmod x 10 < 0) with
  | true => List.map (fun n : Int => UInt8.ofNat n.toNat) ([(IntKind.u8.wrap (IntKind.i64.wrap ((48 : Int) + (IntKind.i64.wrap ((0 : Int) - (Int.tmod x (10 : Int)))))))] : List (Int))
  | false => List.map (fun n : Int => UInt8.ofNat n.toNat) ([(IntKind.u8.wrap (IntKind.i64.wrap ((48 : Int) + (Int.tmod x (10 : Int)))))] : List (Int))

theorem dig_len (x : Int) : (dig x).length = 1 := by unfold dig; split <;> rfl

theorem dig_zero : dig 0 = [48] := by decide +kernel

theorem P32_of (N : Nat) (x : Int) : P32 N x (-9) 9 = some ((decide (-9 ≤ x ∧ x ≤ 9), ()), ()) := by
  rw [P32_eq, t32]
  by_cases h : -9 ≤ x
  · simp [h]
  · simp [h]

theorem L19_step {ρ : Type} (N m : Nat) (a x : Int) (out : List UInt8) (k0 : List UInt8 → Option ρ) (hx : x ≠ 0) (ho : out.length + 1 ≤ bnd) :
    L19_0 N a (m + 1) x out k0 = L19_0 N a m (IntKind.i64.wrap (Int.tdiv x 10)) (dig x ++ out) k0 := by
  have hb : ((x : Int) != 0) = true := by simpa using hx
  rw [L19_0, hb]
  unfold dig
  cases hd : decide (Int.tmod x 10 < 0) <;> (simp only []; rw [if_pos (by simp; omega)]; rfl)

theorem L33_step {ρ : Type} (N m : Nat) (a x : Int) (out : List UInt8) (k0 : List UInt8 → Option ρ) (ho : out.length + 1 ≤ bnd) :
    L33_0 N a (m + 1) out x k0 = match decide (-9 ≤ x ∧ x ≤ 9) with
      | true => k0 (dig x ++ out)
      | false => L33_0 N a m (dig x ++ out) (IntKind.i64.wrap (Int.tdiv x 10)) k0 := by
  rw [L33_0]
  unfold dig
  cases hd : decide (Int.tmod x 10 < 0) <;> (simp only [P32_of]; rw [if_pos (by simp; omega)]; rfl)

theorem L19_end {ρ : Type} (N m : Nat) (a : Int) (out : List UInt8) (k0 : List UInt8 → Option ρ) : L19_0 N a (m + 1) 0 out k0 = k0 out := by
  rw [L19_0]; rfl

theorem tdiv_abs (x : Int) : (Int.tdiv x 10).natAbs = x.natAbs / 10 := by rw [Int.natAbs_tdiv]; rfl

/-- both loops tell the same list -/
theorem digits_same (a : Int) : ∀ (j : Nat) (x : Int) (out : List UInt8), x ≠ 0 → -9223372036854775808 ≤ x → x ≤ 9223372036854775807 → (x.natAbs < 10 ^ (j + 1)) → out.length + j + 1 ≤ 1000 →
    ∃ r : List UInt8, r.length ≤ out.length + j + 1 ∧ ∀ (N m : Nat), j + 1 ≤ m → ∀ (ρ : Type) (k0 : List UInt8 → Option ρ), L19_0 N a (m + 1) x out k0 = k0 r ∧ L33_0 N a m out x k0 = k0 r := by
  intro j
  induction j with
  | zero =>
    intro x out hx h1 h2 hj ho
    have hb : out.length + 1 ≤ bnd := by simp [bnd]; omega
    refine ⟨dig x ++ out, by simp [dig_len]; omega, fun N m hm ρ k0 => ?_⟩
    obtain ⟨m, rfl⟩ : ∃ n, m = n + 1 := ⟨m - 1, by omega⟩
    have hd : Int.tdiv x 10 = 0 := by have := tdiv_abs x; omega
    rw [L19_step N _ a x out k0 hx hb, L33_step N _ a x out k0 hb, hd]
    have : IntKind.i64.wrap 0 = 0 := by decide +kernel
    rw [this, L19_end]
    have hin : decide (-9 ≤ x ∧ x ≤ 9) = true := by simp; omega
    rw [hin]
    exact ⟨rfl, rfl⟩
  | succ j ih =>
    intro x out hx h1 h2 hj ho
    have hb : out.length + 1 ≤ bnd := by simp [bnd]; omega
    have ht := tdiv_abs x
    have hw : IntKind.i64.wrap (Int.tdiv x 10) = Int.tdiv x 10 := wrap64 (by omega) (by omega)
    by_cases hin : -9 ≤ x ∧ x ≤ 9
    · refine ⟨dig x ++ out, by simp [dig_len]; omega, fun N m hm ρ k0 => ?_⟩
      obtain ⟨m, rfl⟩ : ∃ n, m = n + 1 := ⟨m - 1, by omega⟩
      have hd : Int.tdiv x 10 = 0 := by have := tdiv_abs x; omega
      rw [L19_step N _ a x out k0 hx hb, L33_step N _ a x out k0 hb, hw, hd, L19_end]
      have hin' : decide (-9 ≤ x ∧ x ≤ 9) = true := by simpa using hin
      rw [hin']
      exact ⟨rfl, rfl⟩
    · have hlt : (Int.tdiv x 10).natAbs < 10 ^ (j + 1) := by
        rw [ht]
        have : 10 ^ (j + 1 + 1) = 10 ^ (j + 1) * 10 := Nat.pow_succ ..
        omega
      obtain ⟨r, hr, hk⟩ := ih (Int.tdiv x 10) (dig x ++ out) (by omega) (by omega) (by omega) hlt (by simp [dig_len]; omega)
      refine ⟨r, by simp [dig_len] at hr; omega, fun N m hm ρ k0 => ?_⟩
      obtain ⟨m, rfl⟩ : ∃ n, m = n + 1 := ⟨m - 1, by omega⟩
      rw [L19_step N _ a x out k0 hx hb, L33_step N _ a x out k0 hb, hw]
      have hin' : decide (-9 ≤ x ∧ x ≤ 9) = false := by simpa using hin
      rw [hin']
      exact hk N m (by omega) ρ k0

/-- the two Decimals tell the same -/
theorem decimals (N : Nat) (hN : 64 ≤ N) (a : Int) (ha : (Lit.int .i64 a).wf = true) : ∃ r : List UInt8, r.length ≤ 100 ∧ P19 N a = some ((r, ()), ()) ∧ P33 N a = some ((r, ()), ()) := by
  obtain ⟨h1, h2⟩ : -9223372036854775808 ≤ a ∧ a ≤ 9223372036854775807 := by
    simp [Lit.wf, IntKind.min, IntKind.max, IntKind.signed, IntKind.bits] at ha
    omega
  rw [P19_eq, P33_eq, t19, t33]
  obtain ⟨N, rfl⟩ : ∃ n, N = n + 1 := ⟨N - 1, by omega⟩
  by_cases hz : a = 0
  · subst hz
    refine ⟨[48], by simp, rfl, ?_⟩
    rw [L33_step _ _ _ _ _ _ (by simp [bnd]), dig_zero]
    rfl
  · have hlt : a.natAbs < 10 ^ (18 + 1) := by
      have : (10 : Nat) ^ (18 + 1) = 10000000000000000000 := by decide +kernel
      omega
    obtain ⟨r, hr, hk⟩ := digits_same a 18 a [] hz h1 h2 hlt (by simp)
    have hb : ((a : Int) == 0) = false := by simpa using hz
    have e13 := fun (ρ : Type) (k0 : List UInt8 → Option ρ) => ((hk (N + 1) N (by omega) ρ k0).1)
    have e14 := fun (ρ : Type) (k0 : List UInt8 → Option ρ) => ((hk (N + 1) (N + 1) (by omega) ρ k0).2)
    rw [hb]
    simp only [e13, e14]
    cases hd : decide (a < 0)
    · exact ⟨r, by simp at hr; omega, rfl, rfl⟩
    · refine ⟨List.append [45] r, by simp at hr ⊢; omega, ?_, ?_⟩
      all_goals
        show (if _ then _ else _) = _
        rw [if_pos]
        simp [bnd] at hr ⊢
        omega


theorem u8_wrap {x : Int} (h1 : 0 ≤ x) (h2 : x ≤ 255) : IntKind.u8.wrap x = x := by
  simp [IntKind.wrap, IntKind.signed, IntKind.bits]
  omega

/-- how great a number may be that has d digits yet to come -/
def bd : Nat → Int
  | 0 => 10000000
  | d + 1 => bd d / 10
theorem bd_le : ∀ d, bd d ≤ 10000000 ∧ 0 ≤ bd d := by
  intro d
  induction d with
  | zero => simp [bd]
  | succ d ih => simp only [bd]; omega
theorem bd_pos : ∀ d, d ≤ 7 → 1 ≤ bd d := by
  intro d h
  have : d = 0 ∨ d = 1 ∨ d = 2 ∨ d = 3 ∨ d = 4 ∨ d = 5 ∨ d = 6 ∨ d = 7 := by omega
  rcases this with rfl | rfl | rfl | rfl | rfl | rfl | rfl | rfl <;> decide

/-- both loops that read digits tell the same -/
theorem read_loops (s : List UInt8) (hs : s.length ≤ 7) : ∀ (d i : Nat) (acc : Int), s.length = i + d → 0 ≤ acc → acc < bd d →
    ∃ (r : Int) (b : Bool), 0 ≤ r ∧ r ≤ 10000000 ∧ ∀ (N m : Nat), d < m → ∀ (ρ : Type) (k0 k1 : Int → Option ρ), L11_0 N s m acc (i : Int) k0 k1 = cond b (k1 r) (k0 r) ∧ L25_0 N s m acc (i : Int) k0 k1 = cond b (k1 r) (k0 r) := by
  intro d
  induction d with
  | zero =>
    intro i acc hi h0 h1
    have hp := bd_le 0
    refine ⟨acc, true, h0, by omega, fun N m hm ρ k0 k1 => ?_⟩
    obtain ⟨m, rfl⟩ : ∃ n, m = n + 1 := ⟨m - 1, by omega⟩
    have hlt : decide (((i : Nat) : Int) < ((s.length : Nat) : Int)) = false := by simp; omega
    rw [L11_0_s, L25_0_s, hlt]
    exact ⟨rfl, rfl⟩
  | succ d ih =>
    intro i acc hi h0 h1
    have hil : i < s.length := by omega
    have hp := bd_le (d + 1)
    have hp1 := bd_le d
    have hbd : bd (d + 1) = bd d / 10 := rfl
    have hlt : decide (((i : Nat) : Int) < ((s.length : Nat) : Int)) = true := by simp; omega
    have hx : geti s ((i : Nat) : Int) = some s[i] := by rw [geti_nat]; exact List.getElem?_eq_getElem hil
    have h256 := s[i].toNat_lt
    have hw := wrap_succ (n := i) (by omega)
    by_cases hc1 : s[i].toNat < 48
    · refine ⟨acc, false, h0, by omega, fun N m hm ρ k0 k1 => ?_⟩
      obtain ⟨m, rfl⟩ : ∃ n, m = n + 1 := ⟨m - 1, by omega⟩
      have e1 : decide (((s[i].toNat : Nat) : Int) < 48) = true := by simp; omega
      rw [L11_0_s, L25_0_s, hlt]
      simp only [hx, e1]
      exact ⟨rfl, rfl⟩
    · by_cases hc2 : 57 < s[i].toNat
      · refine ⟨acc, false, h0, by omega, fun N m hm ρ k0 k1 => ?_⟩
        obtain ⟨m, rfl⟩ : ∃ n, m = n + 1 := ⟨m - 1, by omega⟩
        have e1 : decide (((s[i].toNat : Nat) : Int) < 48) = false := by simp; omega
        have e2 : decide (((s[i].toNat : Nat) : Int) > 57) = true := by simp; omega
        rw [L11_0_s, L25_0_s, hlt]
        simp only [hx, e1, e2]
        exact ⟨rfl, rfl⟩
      · obtain ⟨r, b, r0, r1, hr⟩ := ih (i + 1) (10 * acc + ((s[i].toNat : Nat) : Int) - 48) (by omega) (by omega) (by omega)
        refine ⟨r, b, r0, r1, fun N m hm ρ k0 k1 => ?_⟩
        obtain ⟨m, rfl⟩ : ∃ n, m = n + 1 := ⟨m - 1, by omega⟩
        have e1 : decide (((s[i].toNat : Nat) : Int) < 48) = false := by simp; omega
        have e2 : decide (((s[i].toNat : Nat) : Int) > 57) = false := by simp; omega
        have w1 : IntKind.i64.wrap (IntKind.i64.wrap (IntKind.i64.wrap (10 * acc) + IntKind.i64.wrap ((s[i].toNat : Nat) : Int)) - 48) = 10 * acc + ((s[i].toNat : Nat) : Int) - 48 := by
          rw [wrap64 (x := 10 * acc) (by omega) (by omega), wrap64 (x := ((s[i].toNat : Nat) : Int)) (by omega) (by omega), wrap64 (x := 10 * acc + ((s[i].toNat : Nat) : Int)) (by omega) (by omega), wrap64 (by omega) (by omega)]
        have w2 : IntKind.i64.wrap (IntKind.i64.wrap (10 * acc) + IntKind.i64.wrap (IntKind.u8.wrap (((s[i].toNat : Nat) : Int) - 48))) = 10 * acc + ((s[i].toNat : Nat) : Int) - 48 := by
          rw [u8_wrap (by omega) (by omega), wrap64 (x := 10 * acc) (by omega) (by omega), wrap64 (x := ((s[i].toNat : Nat) : Int) - 48) (by omega) (by omega), wrap64 (by omega) (by omega)]
          omega
        rw [L11_0_s, L25_0_s, hlt]
        simp only [hx, e1, e2, w1, w2, hw]
        exact hr N m (by omega) ρ k0 k1

/-- both ReadDecimals tell the same -/
theorem readDec (N : Nat) (hN : 64 ≤ N) (s : List UInt8) : ∃ (x : Int) (b : Bool), P11 N s = some ((x, (b, ())), ()) ∧ P25 N s = some ((x, (b, ())), ()) ∧ 0 ≤ x ∧ x ≤ 1000000 := by
  rw [P11_eq, P25_eq, t11, t25, P32_eq, t32]
  by_cases h7 : s.length > 7
  · have e1 : decide (((s.length : Nat) : Int) > 7) = true := by simp; omega
    have e2 : decide (((s.length : Nat) : Int) ≥ 1) = true := by simp; omega
    have e3 : decide (((s.length : Nat) : Int) ≤ 7) = false := by simp; omega
    simp only [e1, e2, e3]
    exact ⟨0, false, rfl, rfl, by omega, by omega⟩
  · have e1 : decide (((s.length : Nat) : Int) > 7) = false := by simp; omega
    have e3 : decide (((s.length : Nat) : Int) ≤ 7) = true := by simp; omega
    obtain ⟨r, b, r0, r1, hr⟩ := read_loops s (by omega) s.length 0 0 (by omega) (by omega) (by have := bd_pos s.length (by omega); omega)
    have hr1 := fun (ρ : Type) (k0 k1 : Int → Option ρ) => (hr N N (by omega) ρ k0 k1).1
    have hr2 := fun (ρ : Type) (k0 k1 : Int → Option ρ) => (hr N N (by omega) ρ k0 k1).2
    have hr1 : ∀ (ρ : Type) (k0 k1 : Int → Option ρ), L11_0 N s N 0 (0 : Int) k0 k1 = cond b (k1 r) (k0 r) := hr1
    have hr2 : ∀ (ρ : Type) (k0 k1 : Int → Option ρ), L25_0 N s N 0 (0 : Int) k0 k1 = cond b (k1 r) (k0 r) := hr2
    have wf : (Lit.int .i64 r).wf = true := by
      simp [Lit.wf, IntKind.min, IntKind.max, IntKind.signed, IntKind.bits]
      omega
    obtain ⟨q, _, d1, d2⟩ := decimals N hN r wf
    by_cases h0 : s.length = 0
    · have hs : s = [] := List.length_eq_zero_iff.1 h0
      subst hs
      have e2 : decide ((([] : List UInt8).length : Int) ≥ 1) = false := by simp
      simp only [e1, e2]
      refine ⟨0, false, ?_, rfl, by omega, by omega⟩
      obtain ⟨N, rfl⟩ : ∃ n, N = n + 1 := ⟨N - 1, by omega⟩
      rw [L11_0_s]
      rfl
    · have e2 : decide (((s.length : Nat) : Int) ≥ 1) = true := by simp; omega
      simp only [e1, e2, e3, hr1, hr2]
      cases b
      · exact ⟨0, false, rfl, rfl, by omega, by omega⟩
      · by_cases hbig : r > 1000000
        · simp only [decide_eq_true hbig]
          exact ⟨0, false, rfl, rfl, by omega, by omega⟩
        · simp only [decide_eq_false hbig, d1, d2]
          cases hq : !((q : List UInt8) == s)
          · exact ⟨r, true, rfl, rfl, r0, by omega⟩
          · exact ⟨0, false, rfl, rfl, by omega, by omega⟩
end Go.Proofs.YtilhlmedhgonbaaDoor
