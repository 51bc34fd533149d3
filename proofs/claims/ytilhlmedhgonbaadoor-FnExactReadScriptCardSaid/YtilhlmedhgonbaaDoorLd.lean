/- ReadScript's law, fourth part: the parts of a line, as the program has them. -/
import Derived.Test.YtilhlmedhgonbaaDoorLc
namespace Go.Proofs.YtilhlmedhgonbaaDoor
open Go.TM
set_option autoImplicit false
set_option linter.unusedVariables false
set_option linter.unusedSimpArgs false

def okc (b : UInt8) : Bool := decide (32 ≤ b.toNat) && decide (b.toNat ≤ 126)
/-- the parts of a line: what stands between its spaces -/
def parts (s : List UInt8) : List (List UInt8) := (cut 32 s).filter fun p => !(p == ([] : List UInt8))
def pres (s : List UInt8) : List (List UInt8) × Bool := if 200 < s.length then ([], false) else if s.all okc then (if 8 < (parts s).length then ([], false) else (parts s, true)) else ([], false)

theorem chars15 {ρ : Type} (N : Nat) (s : List UInt8) (hs : s.length ≤ 200) (k0 k1 : Option ρ) : ∀ (m i : Nat), s.length < m + i → i ≤ s.length → L15_0 N s m (i : Int) k0 k1 = if (s.drop i).all okc then k1 else k0 := by
  intro m
  induction m with
  | zero => intro i h1 h2; omega
  | succ m ih =>
    intro i h1 h2
    rw [L15_0_s]
    by_cases hi : i = s.length
    · subst hi
      have hlt : decide (((s.length : Nat) : Int) < ((s.length : Nat) : Int)) = false := by simp
      rw [hlt, List.drop_eq_nil_of_le (Nat.le_refl _)]
      rfl
    · have hil : i < s.length := by omega
      have hlt : decide (((i : Nat) : Int) < ((s.length : Nat) : Int)) = true := by simp; omega
      have hx : geti s ((i : Nat) : Int) = some s[i] := by rw [geti_nat]; exact List.getElem?_eq_getElem hil
      have hw := wrap_succ (n := i) (by omega)
      rw [hlt, List.drop_eq_getElem_cons hil, List.all_cons]
      simp only [hx, hw]
      by_cases c1 : s[i].toNat < 32
      · have e1 : decide (((s[i].toNat : Nat) : Int) < 32) = true := by simp; omega
        have e2 : okc s[i] = false := by unfold okc; simp; omega
        simp only [e1, e2]
        rfl
      · have e1 : decide (((s[i].toNat : Nat) : Int) < 32) = false := by simp; omega
        simp only [e1]
        by_cases c2 : 126 < s[i].toNat
        · have e3 : decide (((s[i].toNat : Nat) : Int) > 126) = true := by simp; omega
          have e2 : okc s[i] = false := by unfold okc; simp; omega
          simp only [e3, e2]
          rfl
        · have e3 : decide (((s[i].toNat : Nat) : Int) > 126) = false := by simp; omega
          have e2 : okc s[i] = true := by unfold okc; simp; omega
          simp only [e3, e2, Bool.true_and]
          exact ih (i + 1) (by omega) (by omega)

theorem filter15 {ρ : Type} (N : Nat) (l : List (List UInt8)) (hl : l.length ≤ 1000) (v : (List (List UInt8) × Unit) × Unit) (hv : v.1.1 = l) (k0 : List (List UInt8) → Option ρ) : ∀ (m i : Nat) (out : List (List UInt8)), l.length < m + i → i ≤ l.length → out.length ≤ i →
    L15_1 N v m out (i : Int) k0 = k0 (out ++ (l.drop i).filter fun p => !(p == ([] : List UInt8))) := by
  intro m
  induction m with
  | zero => intro i out h1 h2; omega
  | succ m ih =>
    intro i out h1 h2 h3
    rw [L15_1_s, hv]
    by_cases hi : i = l.length
    · subst hi
      have hlt : decide (((l.length : Nat) : Int) < ((l.length : Nat) : Int)) = false := by simp
      rw [hlt, List.drop_eq_nil_of_le (Nat.le_refl _)]
      simp
    · have hil : i < l.length := by omega
      have hlt : decide (((i : Nat) : Int) < ((l.length : Nat) : Int)) = true := by simp; omega
      have hg : geN l i = some l[i] := List.getElem?_eq_getElem hil
      have hw := wrap_succ (n := i) (by omega)
      rw [hlt]
      simp only []
      rw [idx_nat hil, hg, List.drop_eq_getElem_cons hil]
      simp only [hw]
      cases hp : (!((l[i] : List UInt8) == ([] : List UInt8)))
      · rw [List.filter_cons_of_neg (by simpa using hp)]
        exact ih (i + 1) out (by omega) (by omega) (by omega)
      · have hbl : Nat.ble (List.length (α := List UInt8) out + List.length (α := List UInt8) [l[i]]) bnd = true := by simp [bnd]; omega
        simp only [hbl]
        rw [List.filter_cons_of_pos (by exact hp)]
        have := ih (i + 1) (List.append out [l[i]]) (by omega) (by omega) (by simp; omega)
        refine this.trans ?_
        congr 1
        simp

theorem parts15 (N : Nat) (hN : 1125899906842624 ≤ N) (s : List UInt8) : P15 N s = some (((pres s).1, ((pres s).2, ())), ()) := by
  rw [P15_eq, t15]
  unfold pres
  by_cases h1 : 200 < s.length
  · have e1 : decide (((s.length : Nat) : Int) > 200) = true := by simp; omega
    rw [e1, if_pos h1]
  · have e1 : decide (((s.length : Nat) : Int) > 200) = false := by simp; omega
    rw [e1, if_neg h1]
    simp only []
    refine (chars15 N s (by omega) _ _ N 0 (by omega) (Nat.zero_le _)).trans ?_
    rw [List.drop_zero]
    by_cases h2 : s.all okc = true
    · rw [if_pos h2, if_pos h2, split_one N hN s (by omega) 32]
      have hc := cut_len 32 s
      have hk : s.count 32 ≤ s.length := List.count_le_length
      simp only []
      refine (filter15 N (cut 32 s) (by omega) _ rfl _ N 0 [] (by omega) (Nat.zero_le _) (by simp)).trans ?_
      rw [List.nil_append, List.drop_zero]
      show (match decide ((((List.length (α := List UInt8) (parts s)) : Nat) : Int) > (8 : Int)) with | true => _ | false => _) = _
      by_cases h3 : 8 < (parts s).length
      · have e3 : decide ((((parts s).length : Nat) : Int) > 8) = true := by simp; omega
        rw [e3, if_pos h3]
      · have e3 : decide ((((parts s).length : Nat) : Int) > 8) = false := by simp; omega
        rw [e3, if_neg h3]
        rfl
    · rw [if_neg h2, if_neg h2]
end Go.Proofs.YtilhlmedhgonbaaDoor
