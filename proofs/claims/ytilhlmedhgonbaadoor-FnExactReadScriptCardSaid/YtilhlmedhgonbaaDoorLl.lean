/- ReadScript's law, twelfth part: both ways to read a call tell the same. -/
import Derived.Test.YtilhlmedhgonbaaDoorLk
namespace Go.Proofs.YtilhlmedhgonbaaDoor
open Go.TM
set_option autoImplicit false
set_option linter.unusedVariables false
set_option linter.unusedSimpArgs false

def sizes2 : List Int := [-1, 0, 1, 1, 4, 3, 4, 3, 4, 1, 1, 2, 3, 1, 1]

theorem sizes_at : ∀ j : Nat, 1 ≤ j → j < 15 → ∃ n : Nat, n ≤ 4 ∧ sizes.getD j 0 = (n : Int) ∧ geN sizes2 j = some (n : Int) := by
  have h : (List.range 15).all (fun j => decide (j = 0) || (decide ((sizes.getD j 0).toNat ≤ 4) && (decide (sizes.getD j 0 = ((sizes.getD j 0).toNat : Int)) && decide (sizes2[j]? = some ((sizes.getD j 0).toNat : Int))))) = true := by decide +kernel
  intro j h1 h2
  have h3 := List.all_eq_true.1 h j (List.mem_range.2 h2)
  have h0 : decide (j = 0) = false := by simp; omega
  rw [h0, Bool.false_or, Bool.and_eq_true, Bool.and_eq_true] at h3
  exact ⟨_, of_decide_eq_true h3.1, of_decide_eq_true h3.2.1, of_decide_eq_true h3.2.2⟩

theorem call_eq (N : Nat) (hN : 1125899906842624 ≤ N) (p : List (List UInt8)) (w : List UInt8) (hp : geti p (0 : Int) = some w) (hl : p.length ≤ 1048576) :
    ∃ (x : CallD) (b : Bool), P13 N p = some ((x, (b, ())), ()) ∧ P17 N p = some ((x, (b, ())), ()) := by
  rw [P13_eq, P17_eq, t13, t17, hp]
  simp only [P23_eq, t23, P30_eq, t30]
  obtain ⟨N, rfl⟩ : ∃ n, N = n + 100 := ⟨N - 100, by omega⟩
  rcases word_loop (ρ := ((Int × (Int × Unit)) × Unit)) (N + 100) w ((wordsL, ()), ()) wordsL rfl rfl (fun w35 w36 => some ((w35, (w36, ())), ())) (some (((0 : Int), ((-1 : Int), ())), ())) 14 (N + 100) 1 (by omega) (by omega) with ⟨j, j1, j2, hj, e⟩ | ⟨hn, e⟩
  · obtain ⟨n, hn4, hs1, hs2⟩ := sizes_at j j1 j2
    rw [hs1] at e
    have e' : L23_0 (N + 100) w ((wordsL, ()), ()) (N + 100) (1 : Int) (fun w35 w36 => some ((w35, (w36, ())), ())) (some (((0 : Int), ((-1 : Int), ())), ())) = some (((j : Int), ((n : Int), ())), ()) := e
    have e'' := e'
    simp only [wordsL] at e''
    simp only [e'']
    have hneg : decide ((n : Int) < 0) = false := by simp
    have hdist : ∀ i, i < 15 → i ≠ j → wordsL[i]? ≠ some w := by
      intro i h1 h2 h3
      exact h2 (words_distinct i j h1 j2 (by rw [h3, hj]))
    have hskip := skip_loop (ρ := ((CallD × (Bool × Unit)) × Unit)) (N + 100) p w hp (fun w187 w188 => some ((w188, (w187, ())), ())) (some ((((0 : Int), ((0 : Int), ((0 : Int), ((0 : Int), ((0 : Int), ()))))), (false, ())), ())) j j2 (j - 1) (N + 100 - (j - 1)) 1 (by omega) (fun i h1 h2 => hdist i (by omega) (by omega))
    rw [show N + 100 - (j - 1) + (j - 1) = N + 100 by omega] at hskip
    obtain ⟨M, hM⟩ : ∃ M, N + 100 - (j - 1) = M + 1 := ⟨N + 99 - (j - 1), by omega⟩
    rw [hM] at hskip
    have hskip' : L17_0 (N + 100) p (N + 100) (1 : Int) (fun w187 w188 => some ((w188, (w187, ())), ())) (some ((((0 : Int), ((0 : Int), ((0 : Int), ((0 : Int), ((0 : Int), ()))))), (false, ())), ())) = _ := hskip
    have hle : decide ((j : Int) ≤ (14 : Int)) = true := by simp; omega
    have hw1 : wordsL.length = 15 := rfl
    have hg : geN wordsL j = some w := hj
    have hwj := wrap_succ (n := j) (by omega)
    have hlen : IntKind.i64.wrap (((p.length : Nat) : Int) - 1) = ((p.length : Nat) : Int) - 1 := wrap64 (by omega) (by omega)
    have hwn : IntKind.i64.wrap ((n : Int) + 1) = ((n + 1 : Nat) : Int) := wrap_succ (by omega)
    have hww : (!((w : List UInt8) == w)) = false := by simp
    rw [L17_0_s (N + 100) M p (j : Int), hle, hp] at hskip'
    have q1 : ∀ (ρ : Type) (k : Nat → Option ρ), idx 15 (j : Int) k = k j := fun ρ k => idx_nat (by omega) k
    by_cases hpl : p.length = n + 1
    · have b1 : (((p.length : Nat) : Int) != ((n + 1 : Nat) : Int)) = false := by rw [hpl]; simp
      have b2 : ((((p.length : Nat) : Int) - 1) != (n : Int)) = false := by simp; omega
      obtain ⟨r, b, hr4, hr⟩ := args_loops (N + 100) (by omega) p n hpl hn4 (((j : Int), ((n : Int), ())), ()) rfl n 0 [0, 0, 0, 0] (by omega) rfl
      have hr1 := fun (ρ : Type) (k0 k1 : List Int → Option ρ) => (hr (N + 100) (by omega) ρ k0 k1).1
      have hr2 := fun (ρ : Type) (k0 k1 : List Int → Option ρ) => (hr (N + 100) (by omega) ρ k0 k1).2 (j : Int)
      have hr1 : ∀ (ρ : Type) (k0 k1 : List Int → Option ρ), L13_0 (N + 100) p (((j : Int), ((n : Int), ())), ()) (N + 100) [0, 0, 0, 0] (0 : Int) k0 k1 = cond b (k1 r) (k0 r) := hr1
      have hr2 : ∀ (ρ : Type) (k0 k1 : List Int → Option ρ), L17_1 (N + 100) p 1 (j : Int) (N + 100) [0, 0, 0, 0] (0 : Int) k0 k1 = cond b (k1 r) (k0 r) := hr2
      simp only [hneg, hwn, b1, hr1]
      rw [hskip']
      have hidx1 : ∀ (ρ : Type) (k : Nat → Option ρ), idx (p.length + 1) (1 : Int) k = k 1 := fun ρ k => idx_nat (m := 1) (by omega) k
      obtain ⟨a1, a2, a3, a4, rfl⟩ : ∃ a1 a2 a3 a4, r = [a1, a2, a3, a4] := by
        match r, hr4 with
        | [a1, a2, a3, a4], _ => exact ⟨a1, a2, a3, a4, rfl⟩
      have hG : ∀ (k : Nat → Option ((CallD × (Bool × Unit)) × Unit)), idx (List.length (α := List UInt8) wordsL) (j : Int) k = k j := fun k => q1 _ k
      have hG2 : ∀ (k : Nat → Option ((CallD × (Bool × Unit)) × Unit)), idx (List.length (α := Int) sizes2) (j : Int) k = k j := fun k => q1 _ k
      refine ⟨cond b ((j : Int), (a1, (a2, (a3, (a4, ()))))) ((0 : Int), ((0 : Int), ((0 : Int), ((0 : Int), ((0 : Int), ()))))), b, ?_, ?_⟩
      · cases b <;> rfl
      · refine (hG _).trans ?_
        have hg' : ∀ (k : List UInt8 → Option ((CallD × (Bool × Unit)) × Unit)), (match geN (α := List UInt8) wordsL j with | some x => k x | none => none) = k w := by intro k; rw [hg]
        refine (hg' _).trans ?_
        simp only [hww]
        refine (hG2 _).trans ?_
        have hg'' : ∀ (k : Int → Option ((CallD × (Bool × Unit)) × Unit)), (match geN (α := Int) sizes2 j with | some x => k x | none => none) = k (n : Int) := by intro k; rw [hs2]
        refine (hg'' _).trans ?_
        simp only [hlen, b2, hidx1]
        have hrep : List.replicate 4 (0 : Int) = [0, 0, 0, 0] := rfl
        rw [hrep, hr2]
        cases b <;> rfl
    · have b1 : (((p.length : Nat) : Int) != ((n + 1 : Nat) : Int)) = true := by simp; omega
      have b2 : ((((p.length : Nat) : Int) - 1) != (n : Int)) = true := by simp; omega
      simp only [hneg, hwn, b1]
      refine ⟨_, false, rfl, ?_⟩
      rw [hskip']
      have hG : ∀ (k : Nat → Option ((CallD × (Bool × Unit)) × Unit)), idx (List.length (α := List UInt8) wordsL) (j : Int) k = k j := fun k => q1 _ k
      have hG2 : ∀ (k : Nat → Option ((CallD × (Bool × Unit)) × Unit)), idx (List.length (α := Int) sizes2) (j : Int) k = k j := fun k => q1 _ k
      refine (hG _).trans ?_
      have hg' : ∀ (k : List UInt8 → Option ((CallD × (Bool × Unit)) × Unit)), (match geN (α := List UInt8) wordsL j with | some x => k x | none => none) = k w := by intro k; rw [hg]
      refine (hg' _).trans ?_
      simp only [hww]
      refine (hG2 _).trans ?_
      have hg'' : ∀ (k : Int → Option ((CallD × (Bool × Unit)) × Unit)), (match geN (α := Int) sizes2 j with | some x => k x | none => none) = k (n : Int) := by intro k; rw [hs2]
      refine (hg'' _).trans ?_
      simp only [hlen, b2, hwj]
      exact other_loop (N + 100) p w hp _ _ (14 - j) M (j + 1) (by omega) (by omega) (fun i h1 h2 => hdist i (by omega) (by omega))
  · have e' : L23_0 (N + 100) w ((wordsL, ()), ()) (N + 100) (1 : Int) (fun w35 w36 => some ((w35, (w36, ())), ())) (some (((0 : Int), ((-1 : Int), ())), ())) = some (((0 : Int), ((-1 : Int), ())), ()) := e
    simp only [wordsL] at e'
    simp only [e']
    have ho := other_loop (ρ := ((CallD × (Bool × Unit)) × Unit)) (N + 100) p w hp (fun w187 w188 => some ((w188, (w187, ())), ())) (some ((((0 : Int), ((0 : Int), ((0 : Int), ((0 : Int), ((0 : Int), ()))))), (false, ())), ())) 14 (N + 100) 1 (by omega) (by omega) (fun i h1 h2 => hn i h1 h2)
    exact ⟨_, false, rfl, ho⟩
end Go.Proofs.YtilhlmedhgonbaaDoor
