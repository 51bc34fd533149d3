/- ReadScript's law, third part: both ways to cut a text into lines tell the same. -/
import Derived.Test.YtilhlmedhgonbaaDoorLb
namespace Go.Proofs.YtilhlmedhgonbaaDoor
open Go.TM
set_option autoImplicit false
set_option linter.unusedVariables false
set_option linter.unusedSimpArgs false

/-- the lines of a text -/
def lines (s : List UInt8) : List (List UInt8) := if (cut 10 s).getLast? = some [] then (cut 10 s).dropLast else cut 10 s

theorem lines_of {s : List UInt8} {o : List (List UInt8)} {r : List UInt8} (h : o ++ [r] = cut 10 s) : lines s = if r = [] then o else o ++ [r] := by
  unfold lines
  rw [← h]
  simp only [List.getLast?_concat, Option.some.injEq, List.dropLast_concat]

theorem linesOf_eq (N : Nat) (hN : 1125899906842624 ≤ N) (s : List UInt8) (hs : s.length ≤ 1048576) : P14 N s = some ((lines s, ()), ()) := by
  rw [P14_eq, t14, split_one N hN s hs 10]
  have hlen := cut_len 10 s
  have hk : s.count 10 ≤ s.length := List.count_le_length
  have hne : cut 10 s ≠ [] := by intro e; rw [e] at hlen; simp at hlen
  obtain ⟨o, r, e⟩ : ∃ o r, cut 10 s = o ++ [r] := ⟨(cut 10 s).dropLast, (cut 10 s).getLast hne, (List.dropLast_concat_getLast hne).symm⟩
  have ol : o.length = s.count 10 := by rw [e] at hlen; simpa using hlen
  rw [lines_of e.symm, e]
  have hL : (o ++ [r]).length = o.length + 1 := by simp
  have w : IntKind.i64.wrap ((((List.length (α := List UInt8) (o ++ [r])) : Nat) : Int) - (1 : Int)) = ((o.length : Nat) : Int) := by
    rw [wrap64 (by omega) (by omega), hL]
    omega
  simp only [w]
  rw [idx_nat (by omega)]
  have hg : geN (o ++ [r]) o.length = some r := by unfold geN; simp
  rw [hg]
  have hb : Nat.beq o.length (List.length (α := List UInt8) (o ++ [r])) = false := by
    cases h : Nat.beq o.length (List.length (α := List UInt8) (o ++ [r]))
    · rfl
    · have := Nat.eq_of_beq_eq_true h; omega
  cases hr : ((r : List UInt8) == ([] : List UInt8))
  · have : ¬ r = [] := by intro e; subst e; cases hr
    simp only [hr]
    rw [if_neg this]
  · have : r = [] := eq_of_beq hr
    simp only [hr]
    rw [idx_nat (by omega), if_pos this, hb]
    simp

theorem lines_loop {ρ : Type} (N : Nat) (s : List UInt8) (hs : s.length ≤ 1048576) (k0 : Int → List (List UInt8) → Option ρ) :
    ∀ (m b i : Nat) (out : List (List UInt8)), s.length < m + i → b ≤ i → i ≤ s.length → out.length ≤ i → (10 : UInt8) ∉ (s.take i).drop b → out ++ cut 10 (s.drop b) = cut 10 s →
      ∃ (b' : Nat) (out' : List (List UInt8)), L9_0 N s m out (b : Int) (i : Int) k0 = k0 (b' : Int) out' ∧ b' ≤ s.length ∧ out'.length ≤ s.length ∧ out' ++ [s.drop b'] = cut 10 s := by
  intro m
  induction m with
  | zero => intro b i out h1 h2 h3; omega
  | succ m ih =>
    intro b i out h1 h2 h3 h4 h5 h6
    rw [L9_0_s]
    by_cases hi : i = s.length
    · subst hi
      have hlt : decide (((s.length : Nat) : Int) < ((s.length : Nat) : Int)) = false := by simp
      rw [hlt]
      refine ⟨b, out, rfl, h2, h4, ?_⟩
      rw [List.take_length] at h5
      rw [cut_miss 10 _ h5] at h6
      exact h6
    · have hil : i < s.length := by omega
      have hlt : decide (((i : Nat) : Int) < ((s.length : Nat) : Int)) = true := by simp; omega
      have hx : geti s ((i : Nat) : Int) = some s[i] := by rw [geti_nat]; exact List.getElem?_eq_getElem hil
      have hw := wrap_succ (n := i) (by omega)
      have htk : (s.take (i + 1)).drop b = (s.take i).drop b ++ [s[i]] := by
        rw [List.take_succ_eq_append_getElem hil, List.drop_append_of_le_length (by rw [List.length_take]; omega)]
      rw [hlt]
      simp only [hx, hw]
      by_cases hc : s[i] = 10
      · have e1 : (((s[i].toNat : Nat) : Int) == 10) = true := by rw [hc]; rfl
        simp only [e1]
        rw [idx_nat (by omega), idx_nat (by omega)]
        have hbl : Nat.ble (List.length (α := List UInt8) out + List.length (α := List UInt8) [((List.take i s).drop b)]) bnd = true := by simp [bnd]; omega
        rw [hbl]
        have hd : s.drop b = (s.take i).drop b ++ 10 :: s.drop (i + 1) := by
          have q1 : s = s.take i ++ s[i] :: s.drop (i + 1) := by rw [← List.drop_eq_getElem_cons hil, List.take_append_drop]
          conv => lhs; rw [q1]
          rw [List.drop_append_of_le_length (by rw [List.length_take]; omega), hc]
        refine ih (i + 1) (i + 1) (List.append out [(List.take i s).drop b]) (by omega) (Nat.le_refl _) (by omega) (by simp; omega) ?_ ?_
        · rw [List.drop_eq_nil_of_le (by rw [List.length_take]; omega)]; simp
        · rw [hd, cut_hit 10 _ _ h5] at h6
          rw [← h6]
          simp
      · have e1 : (((s[i].toNat : Nat) : Int) == 10) = false := by
          simp only [beq_eq_false_iff_ne, ne_eq]
          intro h
          apply hc
          apply UInt8.toNat_inj.1
          have : s[i].toNat = 10 := by omega
          rw [this]; rfl
        simp only [e1]
        refine ih b (i + 1) out (by omega) (by omega) (by omega) (by omega) ?_ h6
        rw [htk]
        simp only [List.mem_append, List.mem_singleton, not_or]
        exact ⟨h5, fun e => hc e.symm⟩

theorem lines_eq (N : Nat) (hN : 1125899906842624 ≤ N) (s : List UInt8) (hs : s.length ≤ 1048576) : P9 N s = some ((lines s, ()), ()) := by
  rw [P9_eq, t9]
  obtain ⟨b, out, hl, h1, h2, h3⟩ := lines_loop N s hs (fun w36 w37 => (match (decide (w36 < ((List.length (α := UInt8) s : Nat) : Int))) with | true => (idx ((List.length (α := UInt8) s) + 1) w36 fun j38 => (match Nat.ble (List.length (α := List UInt8) w37 + List.length (α := List UInt8) ([((List.take (α := UInt8) (List.length (α := UInt8) s) s).drop j38)] : List (List UInt8))) bnd with | true => some (((List.append (α := List UInt8) w37 ([((List.take (α := UInt8) (List.length (α := UInt8) s) s).drop j38)] : List (List UInt8))), ()), ()) | false => none)) | false => some ((w37, ()), ()))) N 0 0 [] (by omega) (Nat.le_refl _) (Nat.zero_le _) (Nat.zero_le _) (by simp) (by simp)
  refine Eq.trans hl ?_
  rw [lines_of h3]
  by_cases hb : b = s.length
  · subst hb
    have hlt : decide (((s.length : Nat) : Int) < ((s.length : Nat) : Int)) = false := by simp
    rw [hlt, if_pos (List.drop_eq_nil_of_le (Nat.le_refl _))]
  · have hlt : decide (((b : Nat) : Int) < ((s.length : Nat) : Int)) = true := by simp; omega
    rw [hlt, if_neg (by intro e; have := congrArg List.length e; simp at this; omega)]
    simp only []
    rw [idx_nat (by omega)]
    have hbl : Nat.ble (List.length (α := List UInt8) out + List.length (α := List UInt8) [((List.take s.length s).drop b)]) bnd = true := by simp [bnd]; omega
    rw [hbl, List.take_length]
    rfl
end Go.Proofs.YtilhlmedhgonbaaDoor
