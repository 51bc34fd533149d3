/- ReadScript's law, fifth part: the parts of a line, as the reference has them: the same. -/
import Derived.Test.YtilhlmedhgonbaaDoorLd
namespace Go.Proofs.YtilhlmedhgonbaaDoor
open Go.TM
set_option autoImplicit false
set_option linter.unusedVariables false
set_option linter.unusedSimpArgs false

theorem over10 {ρ : Type} (N : Nat) (s : List UInt8) (m b : Nat) (out : List (List UInt8)) (k0 k1 : List (List UInt8) → Option ρ) : L10_0 N s (m + 1) out (b : Int) ((s.length + 1 : Nat) : Int) k0 k1 = k1 out := by
  rw [L10_0_s]
  have hle : decide (((s.length + 1 : Nat) : Int) ≤ ((s.length : Nat) : Int)) = false := by simp; omega
  rw [hle]

theorem loop10 {ρ : Type} (N : Nat) (s : List UInt8) (hs : s.length ≤ 200) (k0 k1 : List (List UInt8) → Option ρ) :
    ∀ (m b i : Nat) (out : List (List UInt8)), s.length + 1 < m + i → b ≤ i → i ≤ s.length → out.length ≤ i → (32 : UInt8) ∉ (s.take i).drop b → out ++ (cut 32 (s.drop b)).filter (fun p => !(p == ([] : List UInt8))) = parts s →
      ((s.drop i).all okc = true → L10_0 N s m out (b : Int) (i : Int) k0 k1 = k1 (parts s)) ∧ ((s.drop i).all okc = false → ∃ o, L10_0 N s m out (b : Int) (i : Int) k0 k1 = k0 o) := by
  intro m
  induction m with
  | zero => intro b i out h1 h2 h3; omega
  | succ m ih =>
    intro b i out h1 h2 h3 h4 h5 h6
    have hle : decide (((i : Nat) : Int) ≤ ((s.length : Nat) : Int)) = true := by simp; omega
    have hw := wrap_succ (n := i) (by omega)
    by_cases hi : i = s.length
    · subst hi
      have hlt : decide (((s.length : Nat) : Int) < ((s.length : Nat) : Int)) = false := by simp
      rw [List.drop_eq_nil_of_le (Nat.le_refl _)]
      refine ⟨fun _ => ?_, fun h => by simp at h⟩
      rw [List.take_length] at h5
      rw [cut_miss 32 _ h5] at h6
      rw [L10_0_s]
      simp only [hle, hlt, hw]
      obtain ⟨m, rfl⟩ : ∃ n, m = n + 1 := ⟨m - 1, by omega⟩
      by_cases hb : b = s.length
      · have e1 : decide (((b : Nat) : Int) < ((s.length : Nat) : Int)) = false := by simp; omega
        simp only [e1]
        rw [over10]
        rw [hb, List.drop_eq_nil_of_le (Nat.le_refl _)] at h6
        rw [← h6]
        simp
      · have e1 : decide (((b : Nat) : Int) < ((s.length : Nat) : Int)) = true := by simp; omega
        simp only [e1]
        rw [idx_nat (by omega), idx_nat (by omega)]
        have hbl : Nat.ble (List.length (α := List UInt8) out + List.length (α := List UInt8) [((List.take s.length s).drop b)]) bnd = true := by simp [bnd]; omega
        simp only [hbl]
        rw [over10, List.take_length]
        have hne : ¬ s.drop b = [] := by intro e; have := congrArg List.length e; simp at this; omega
        rw [← h6, List.filter_cons_of_pos (by simpa using hne)]
        rfl
    · have hil : i < s.length := by omega
      have hlt : decide (((i : Nat) : Int) < ((s.length : Nat) : Int)) = true := by simp; omega
      have hx : geti s ((i : Nat) : Int) = some s[i] := by rw [geti_nat]; exact List.getElem?_eq_getElem hil
      have htk : (s.take (i + 1)).drop b = (s.take i).drop b ++ [s[i]] := by
        rw [List.take_succ_eq_append_getElem hil, List.drop_append_of_le_length (by rw [List.length_take]; omega)]
      rw [L10_0_s, List.drop_eq_getElem_cons hil, List.all_cons]
      simp only [hle, hlt, hx, hw]
      by_cases c1 : s[i].toNat < 32
      · have e1 : decide (((s[i].toNat : Nat) : Int) < 32) = true := by simp; omega
        have e2 : okc s[i] = false := by unfold okc; simp; omega
        refine ⟨fun h => by rw [e2] at h; simp at h, fun _ => ⟨out, ?_⟩⟩
        simp only [e1]
      · have e1 : decide (((s[i].toNat : Nat) : Int) < 32) = false := by simp; omega
        simp only [e1]
        by_cases c2 : 126 < s[i].toNat
        · have e3 : decide (((s[i].toNat : Nat) : Int) > 126) = true := by simp; omega
          have e2 : okc s[i] = false := by unfold okc; simp; omega
          refine ⟨fun h => by rw [e2] at h; simp at h, fun _ => ⟨out, ?_⟩⟩
          simp only [e3]
        · have e3 : decide (((s[i].toNat : Nat) : Int) > 126) = false := by simp; omega
          have e2 : okc s[i] = true := by unfold okc; simp; omega
          simp only [e3, e2, Bool.true_and]
          by_cases hc : s[i] = 32
          · have e4 : (((s[i].toNat : Nat) : Int) != 32) = false := by rw [hc]; rfl
            simp only [e4]
            have hd : s.drop b = (s.take i).drop b ++ 32 :: s.drop (i + 1) := by
              have q1 : s = s.take i ++ s[i] :: s.drop (i + 1) := by rw [← List.drop_eq_getElem_cons hil, List.take_append_drop]
              conv => lhs; rw [q1]
              rw [List.drop_append_of_le_length (by rw [List.length_take]; omega), hc]
            rw [hd, cut_hit 32 _ _ h5] at h6
            have h5' : (32 : UInt8) ∉ (s.take (i + 1)).drop (i + 1) := by rw [List.drop_eq_nil_of_le (by rw [List.length_take]; omega)]; simp
            by_cases hb : b = i
            · have e5 : decide (((b : Nat) : Int) < ((i : Nat) : Int)) = false := by simp; omega
              simp only [e5]
              refine ih (i + 1) (i + 1) out (by omega) (Nat.le_refl _) (by omega) (by omega) h5' ?_
              rw [hb, List.drop_eq_nil_of_le (by rw [List.length_take]; omega)] at h6
              rw [← h6]
              rfl
            · have e5 : decide (((b : Nat) : Int) < ((i : Nat) : Int)) = true := by simp; omega
              simp only [e5]
              rw [idx_nat (by omega), idx_nat (by omega)]
              have hbl : Nat.ble (List.length (α := List UInt8) out + List.length (α := List UInt8) [((List.take i s).drop b)]) bnd = true := by simp [bnd]; omega
              simp only [hbl]
              have hne : ¬ (s.take i).drop b = [] := by intro e; have := congrArg List.length e; simp at this; omega
              refine ih (i + 1) (i + 1) (List.append out [(List.take i s).drop b]) (by omega) (Nat.le_refl _) (by omega) (by simp; omega) h5' ?_
              rw [List.filter_cons_of_pos (by simpa using hne)] at h6
              rw [← h6]
              simp
          · have e4 : (((s[i].toNat : Nat) : Int) != 32) = true := by
              simp only [bne_iff_ne, ne_eq]
              intro h
              apply hc
              apply UInt8.toNat_inj.1
              have : s[i].toNat = 32 := by omega
              rw [this]; rfl
            simp only [e4]
            refine ih b (i + 1) out (by omega) (by omega) (by omega) (by omega) ?_ h6
            rw [htk]
            simp only [List.mem_append, List.mem_singleton, not_or]
            exact ⟨h5, fun e => hc e.symm⟩

theorem parts10 (N : Nat) (hN : 1125899906842624 ≤ N) (s : List UInt8) : P10 N s = some (((pres s).1, ((pres s).2, ())), ()) := by
  rw [P10_eq, t10]
  unfold pres
  by_cases h1 : 200 < s.length
  · have e1 : decide (((s.length : Nat) : Int) > 200) = true := by simp; omega
    rw [e1, if_pos h1]
  · have e1 : decide (((s.length : Nat) : Int) > 200) = false := by simp; omega
    rw [e1, if_neg h1]
    simp only []
    obtain ⟨g1, g2⟩ := loop10 N s (by omega) (fun w => some ((([] : List (List UInt8)), (false, ())), ())) (fun w116 => (match (decide ((((List.length (α := List UInt8) w116) : Nat) : Int) > (8 : Int))) with | true => some ((([] : List (List UInt8)), (false, ())), ()) | false => some ((w116, (true, ())), ()))) N 0 0 [] (by omega) (Nat.le_refl _) (Nat.zero_le _) (Nat.zero_le _) (by simp) (by simp [parts])
    rw [List.drop_zero] at g1 g2
    by_cases h2 : s.all okc = true
    · rw [if_pos h2]
      refine (g1 h2).trans ?_
      by_cases h3 : 8 < (parts s).length
      · have e3 : decide ((((parts s).length : Nat) : Int) > 8) = true := by simp; omega
        simp only [e3]
        rw [if_pos h3]
      · have e3 : decide ((((parts s).length : Nat) : Int) > 8) = false := by simp; omega
        simp only [e3]
        rw [if_neg h3]
    · rw [if_neg h2]
      obtain ⟨o, ho⟩ := g2 (by simpa using h2)
      exact ho
end Go.Proofs.YtilhlmedhgonbaaDoor
