/- ReadScript's law, second part: strings.Split at a separator of one letter is the cutting of a list at that letter. -/
import Derived.Test.YtilhlmedhgonbaaDoorLa
namespace Go.Proofs.YtilhlmedhgonbaaDoor
open Go.TM
set_option autoImplicit false
set_option linter.unusedVariables false
set_option linter.unusedSimpArgs false

/-- a list cut at each letter c -/
def cut (c : UInt8) : List UInt8 → List (List UInt8)
  | [] => [[]]
  | b :: l => if b = c then [] :: cut c l else match cut c l with
    | [] => [[b]]
    | h :: t => (b :: h) :: t

theorem cut_ne (c : UInt8) : ∀ l, ∃ h t, cut c l = h :: t := by
  intro l
  cases l with
  | nil => exact ⟨[], [], rfl⟩
  | cons b l =>
    simp only [cut]
    split
    · exact ⟨_, _, rfl⟩
    · split <;> exact ⟨_, _, rfl⟩

theorem cut_len (c : UInt8) : ∀ l, (cut c l).length = l.count c + 1 := by
  intro l
  induction l with
  | nil => rfl
  | cons b l ih =>
    simp only [cut]
    split
    · rename_i h
      subst h
      simp [ih]
    · rename_i h
      obtain ⟨h1, t1, e⟩ := cut_ne c l
      rw [e] at ih ⊢
      simp only [List.length_cons] at ih ⊢
      rw [List.count_cons_of_ne h]
      exact ih

theorem cut_miss (c : UInt8) : ∀ l, c ∉ l → cut c l = [l] := by
  intro l
  induction l with
  | nil => intro _; rfl
  | cons b l ih =>
    intro h
    simp only [List.mem_cons, not_or] at h
    simp only [cut]
    rw [if_neg (fun e => h.1 e.symm), ih h.2]

theorem cut_hit (c : UInt8) : ∀ (p r : List UInt8), c ∉ p → cut c (p ++ c :: r) = p :: cut c r := by
  intro p r
  induction p with
  | nil => intro _; simp [cut]
  | cons b p ih =>
    intro h
    simp only [List.mem_cons, not_or] at h
    simp only [List.cons_append, cut]
    rw [if_neg (fun e => h.1 e.symm), ih h.2]

/-- where a letter stands first -/
theorem index_spec (c : UInt8) : ∀ l, (Lib.indexByte l c = -1 ∧ c ∉ l) ∨ ∃ p r, l = p ++ c :: r ∧ c ∉ p ∧ Lib.indexByte l c = (p.length : Int) := by
  intro l
  induction l with
  | nil => left; exact ⟨rfl, by simp⟩
  | cons b l ih =>
    unfold Lib.indexByte
    by_cases h : b = c
    · subst h
      right
      exact ⟨[], l, rfl, by simp, by simp⟩
    · have hb : (b == c) = false := by simpa using h
      rw [hb]
      rcases ih with ⟨e, hm⟩ | ⟨p, r, rfl, hm, e⟩
      · left
        rw [e]
        exact ⟨by simp, by simp only [List.mem_cons, not_or]; exact ⟨fun e => h e.symm, hm⟩⟩
      · right
        refine ⟨b :: p, r, rfl, by simp only [List.mem_cons, not_or]; exact ⟨fun e => h e.symm, hm⟩, ?_⟩
        rw [e]
        have : (((p.length : Nat) : Int) == -1) = false := by simp
        rw [this]
        simp

theorem q53_eq (s : List UInt8) (c : UInt8) : q53 s ((c.toNat : Nat) : Int) = Lib.indexByte s c := by
  unfold q53
  congr 1
  simp

theorem q44_eq (s : List UInt8) (c : UInt8) : q44 s ((c.toNat : Nat) : Int) = ((s.count c : Nat) : Int) := by
  unfold q44 Lib.countByte
  congr 2
  simp

theorem index_one (N : Nat) (s : List UInt8) (c : UInt8) : P39 N s [c] = some ((Lib.indexByte s c, ()), ()) := by
  rw [P39_eq, t39, P45_eq, t45]
  have e0 : ((([c] : List UInt8).length : Int) == 0) = false := by simp
  have e1 : ((([c] : List UInt8).length : Int) == 1) = true := by simp
  have e2 : geti [c] (0 : Int) = some c := rfl
  simp only [e0, e1, e2, P48_eq, t48, P53, q53_eq]
  cases hs : (([c] : List UInt8) == s)
  · rfl
  · have : s = [c] := by have := eq_of_beq hs; exact this.symm
    subst this
    simp [Lib.indexByte]

theorem count_one (N : Nat) (s : List UInt8) (c : UInt8) : P38 N s [c] = some ((((s.count c : Nat) : Int), ()), ()) := by
  rw [P38_eq, t38]
  have e0 : ((([c] : List UInt8).length : Int) == 0) = false := by simp
  have e1 : ((([c] : List UInt8).length : Int) == 1) = true := by simp
  have e2 : geti [c] (0 : Int) = some c := rfl
  simp only [e0, e1, e2, P44, q44_eq]

theorem split_loop {ρ : Type} (N : Nat) (s : List UInt8) (hs : s.length ≤ 1048576) (c : UInt8) (k : Nat) (hk : k ≤ s.length) (v : (Int × Unit) × Unit) (hv : v.1.1 = (k : Int)) (T : List (List UInt8)) (k0 : List UInt8 → Int → List (List UInt8) → Option ρ) :
    ∀ (m i : Nat) (r : List UInt8) (out : List (List UInt8)), i + r.count c = k → r.length ≤ s.length → out.length = k + 1 → r.count c < m → out.take i ++ cut c r = T →
      ∃ r' out', L31_0 N s [c] 0 v m out r (i : Int) k0 = k0 r' (k : Int) out' ∧ out'.length = k + 1 ∧ out'.take k ++ [r'] = T := by
  have hb : IntKind.i64.wrap ((min (α := Int) (IntKind.i64.wrap (v.1.1 + (1 : Int))) (IntKind.i64.wrap (((List.length (α := UInt8) s : Nat) : Int) + (1 : Int)))) - (1 : Int)) = (k : Int) := by
    rw [hv, wrap64 (x := (k : Int) + 1) (by omega) (by omega), wrap64 (x := ((s.length : Nat) : Int) + 1) (by omega) (by omega)]
    rw [Int.min_def, if_pos (by omega), wrap64 (by omega) (by omega)]
    omega
  intro m
  induction m with
  | zero => intro i r out h1 h2 h3 h4; omega
  | succ m ih =>
    intro i r out h1 h2 h3 h4 h5
    rw [L31_0_s, hb]
    rcases index_spec c r with ⟨e, hm⟩ | ⟨p, r1, rfl, hm, e⟩
    · have hc : r.count c = 0 := List.count_eq_zero.2 hm
      have hi : i = k := by omega
      have hlt : decide ((i : Int) < (k : Int)) = false := by simp; omega
      rw [hlt]
      refine ⟨r, out, by rw [hi], h3, ?_⟩
      rw [← h5, hi, cut_miss c r hm]
    · have hc : (p ++ c :: r1).count c = r1.count c + 1 := by
        rw [List.count_append, List.count_cons_self, List.count_eq_zero.2 hm]; omega
      have hlt : decide ((i : Int) < (k : Int)) = true := by simp; omega
      have hpl : p.length + 1 + r1.length = (p ++ c :: r1).length := by simp; omega
      rw [hlt]
      simp only [index_one, e]
      have e1 : decide (((p.length : Nat) : Int) < 0) = false := by simp
      have w1 : IntKind.i64.wrap (((p.length : Nat) : Int) + 0) = ((p.length : Nat) : Int) := wrap64 (by omega) (by omega)
      have w2 : IntKind.i64.wrap (((p.length : Nat) : Int) + ((List.length (α := UInt8) [c] : Nat) : Int)) = ((p.length + 1 : Nat) : Int) := by
        rw [wrap64 (by simp; omega) (by simp; omega)]
        simp
      have w3 := wrap_succ (n := i) (by omega)
      have hg : geN out i = some (out[i]'(by omega)) := List.getElem?_eq_getElem _
      simp only [e1, w1, w2, w3]
      rw [idx_nat (by omega), idx_nat (by omega), hg]
      simp only []
      rw [idx_nat (by omega)]
      have t1 : (List.take p.length (p ++ c :: r1)).drop 0 = p := by simp
      have t2 : (List.take (p ++ c :: r1).length (p ++ c :: r1)).drop (p.length + 1) = r1 := by
        rw [List.take_length, ← List.drop_drop]
        simp
      rw [t1, t2]
      refine ih (i + 1) r1 (out.set i p) (by omega) (by omega) (by simpa using h3) (by omega) ?_
      rw [← h5, cut_hit c p r1 hm, List.take_succ_eq_append_getElem (by rw [List.length_set]; omega), List.take_set_of_le (Nat.le_refl i)]
      simp

/-- strings.Split at one letter -/
theorem split_one (N : Nat) (hN : 1125899906842624 ≤ N) (s : List UInt8) (hs : s.length ≤ 1048576) (c : UInt8) : P24 N s [c] = some ((cut c s, ()), ()) := by
  rw [P24_eq, t24, P31_eq, t31, count_one]
  have hk : s.count c ≤ s.length := List.count_le_length
  have e0 : ((-1 : Int) == 0) = false := rfl
  have e1 : (([c] : List UInt8) == ([] : List UInt8)) = false := rfl
  have e2 : decide ((-1 : Int) < 0) = true := rfl
  have hmin : min (α := Int) (IntKind.i64.wrap (((s.count c : Nat) : Int) + (1 : Int))) (IntKind.i64.wrap (((List.length (α := UInt8) s : Nat) : Int) + (1 : Int))) = ((s.count c + 1 : Nat) : Int) := by
    rw [wrap64 (x := ((s.count c : Nat) : Int) + 1) (by omega) (by omega), wrap64 (x := ((s.length : Nat) : Int) + 1) (by omega) (by omega), Int.min_def, if_pos (by omega)]
    rfl
  simp only [e0, e1, e2, hmin]
  show (match (show Option ((List (List UInt8) × Unit) × Unit) from if Nat.beq (s.count c + 1) (s.count c + 1) && Nat.ble (s.count c + 1) bnd && true then _ else none) with | none => none | some v2 => (some ((v2.1.1, ()), ()) : Option ((List (List UInt8) × Unit) × Unit))) = _
  rw [if_pos (by simp [bnd]; omega)]
  obtain ⟨r', out', hl, h1, h2⟩ := split_loop N s hs c (s.count c) hk ((((s.count c : Nat) : Int), ()), ()) rfl (cut c s) (fun w108 w109 w110 => (idx (List.length (α := List UInt8) w110) w109 fun j111 => (match geN (α := List UInt8) w110 j111 with | some x112 => (idx ((List.length (α := List UInt8) (List.set (α := List UInt8) w110 j111 w108)) + 1) (IntKind.i64.wrap (w109 + (1 : Int))) fun j113 => (match (Nat.beq j113 (List.length (α := List UInt8) (List.set (α := List UInt8) w110 j111 w108))) with | true => some (((List.set (α := List UInt8) w110 j111 w108), ()), ()) | false => some (((List.take (α := List UInt8) (j113 - 0) (List.set (α := List UInt8) w110 j111 w108)), ()), ()))) | none => none))) N 0 s (List.replicate (s.count c + 1) ([] : List UInt8)) (by omega) (Nat.le_refl _) (by simp) (by omega) (by simp)
  refine Eq.trans (congrArg (fun z => (match z with | none => none | some v2 => some ((v2.1.1, ()), ()) : Option ((List (List UInt8) × Unit) × Unit))) hl) ?_
  have hg : geN out' (s.count c) = some (out'[s.count c]'(by omega)) := List.getElem?_eq_getElem _
  rw [idx_nat (by omega), hg]
  simp only [wrap_succ (n := s.count c) (by omega)]
  rw [idx_nat (by rw [List.length_set]; omega)]
  have hb : Nat.beq (s.count c + 1) (List.length (α := List UInt8) (List.set out' (s.count c) r')) = true := by rw [List.length_set, h1]; simp
  simp only [hb]
  congr 3
  rw [← h2]
  apply List.ext_getElem
  · simp; omega
  · intro n q1 q2
    rw [List.getElem_set]
    split
    · rename_i hn
      subst hn
      rw [List.getElem_append_right (by rw [List.length_take]; omega)]
      simp
    · rename_i hn
      have : n < s.count c := by simp at q1; omega
      rw [List.getElem_append_left (by simp; omega)]
      simp
end Go.Proofs.YtilhlmedhgonbaaDoor
