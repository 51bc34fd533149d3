/- ReadScript's law, fourteenth part: both ways to read a script tell the same. -/
import Derived.Test.YtilhlmedhgonbaaDoorLm
namespace Go.Proofs.YtilhlmedhgonbaaDoor
open Go.TM
set_option autoImplicit false
set_option linter.unusedVariables false
set_option linter.unusedSimpArgs false

abbrev ScriptR : Type := (Int × (Int × (List CallD × (Int × Unit)))) × Unit
def kBad (w : Int) : Option ScriptR := some ((0, (0, ([], (w, ())))), ())
def k4 : Int → Int → Int → List CallD → Option ScriptR := fun w _ _ _ => kBad w
def k4e : Int → Int → List CallD → Option ScriptR := fun f s out => match (f == (0 : Int)) with
  | true => kBad 1
  | false => some ((f, (s, (out, (0, ())))), ())
def k5 : Int → Int → Int → Bool → List CallD → Option ScriptR := fun w _ _ _ _ => kBad w
def k5e : Int → Int → Bool → List CallD → Option ScriptR := fun f s h out => match (!h) with
  | true => kBad 1
  | false => some ((f, (s, (out, (0, ())))), ())

/-- both tell r, which is short -/
def Both (a b : Option ScriptR) : Prop := ∃ r, a = some r ∧ b = some r ∧ r.1.2.2.1.length ≤ 1000

theorem both_bad (w : Int) {a b : Option ScriptR} (h1 : a = kBad w) (h2 : b = kBad w) : Both a b := ⟨_, h1, h2, by simp⟩

theorem pres_ok {s : List UInt8} (h : (pres s).2 = true) : (pres s).1.length ≤ 8 ∧ ∀ w ∈ (pres s).1, w ≠ [] := by
  unfold pres at h ⊢
  split at h
  · cases h
  · split at h
    · rename_i h1 h2
      split at h
      · cases h
      · rename_i h3
        rw [if_neg h1, if_pos h2, if_neg h3]
        refine ⟨by simpa using h3, fun w hw => ?_⟩
        have hw : w ∈ parts s := hw
        unfold parts at hw
        have := (List.mem_filter.1 hw).2
        simpa using this
    · cases h

theorem main_loop (N : Nat) (hN : 1125899906842624 ≤ N) (v : (List (List UInt8) × Unit) × Unit) (Ls : List (List UInt8)) (hv : v.1.1 = Ls) (h90 : Ls.length ≤ 90) :
    ∀ (d m i : Nat) (f s : Int) (h : Bool) (out : List CallD), d < m → i + d = Ls.length → out.length ≤ i → (h = !(f == (0 : Int))) →
      Both (L4_0 N v m out f s (i : Int) k4 k4e) (L5_0 N v m out f s h (i : Int) k5 k5e) := by
  intro d
  induction d with
  | zero =>
    intro m i f s h out h1 h2 h3 h4
    obtain ⟨m, rfl⟩ : ∃ q, m = q + 1 := ⟨m - 1, by omega⟩
    have hlt : decide (((i : Nat) : Int) < ((Ls.length : Nat) : Int)) = false := by simp; omega
    rw [L4_0_s, L5_0_s, hv, hlt]
    simp only [k4e, k5e, h4, Bool.not_not]
    cases hf : (f == (0 : Int))
    · exact ⟨_, rfl, rfl, by simp; omega⟩
    · exact both_bad 1 rfl rfl
  | succ d ih =>
    intro m i f s h out h1 h2 h3 h4
    obtain ⟨m, rfl⟩ : ∃ q, m = q + 1 := ⟨m - 1, by omega⟩
    have hil : i < Ls.length := by omega
    have hlt : decide (((i : Nat) : Int) < ((Ls.length : Nat) : Int)) = true := by simp; omega
    have hg : geN Ls i = some Ls[i] := List.getElem?_eq_getElem hil
    have hw := wrap_succ (n := i) (by omega)
    have i1 : ∀ (ρ : Type) (k : Nat → Option ρ), idx (List.length (α := List UInt8) Ls) (i : Int) k = k i := fun ρ k => idx_nat hil k
    rw [L4_0_s, L5_0_s, hv, hlt]
    simp only [i1, hg, parts10 N hN, parts15 N hN, hw]
    cases hok : (pres Ls[i]).2
    · simp only [Bool.not_false]
      exact both_bad _ rfl rfl
    · obtain ⟨p8, pne⟩ := pres_ok hok
      generalize hp : (pres Ls[i]).1 = p at p8 pne ⊢
      simp only [Bool.not_true]
      cases hz : ((((List.length (α := List UInt8) p) : Nat) : Int) == (0 : Int))
      rotate_left
      · simp only []
        exact ih m (i + 1) f s h out (by omega) (by omega) (by omega) h4
      · simp only []
        have hp0 : 0 < p.length := by
          have : ((p.length : Nat) : Int) ≠ 0 := by intro e; rw [e] at hz; cases hz
          omega
        obtain ⟨w, ps, rfl⟩ : ∃ w ps, p = w :: ps := by
          cases p with
          | nil => simp at hp0
          | cons w ps => exact ⟨w, ps, rfl⟩
        have i2 : ∀ (ρ : Type) (k : Nat → Option ρ), idx (List.length (α := List UInt8) (w :: ps)) (0 : Int) k = k 0 := fun ρ k => idx_nat (m := 0) hp0 k
        have g2 : geN (α := List UInt8) (w :: ps) 0 = some w := rfl
        have hwne : w ≠ [] := pne w (by simp)
        obtain ⟨c, cs, rfl⟩ : ∃ c cs, w = c :: cs := by
          cases w with
          | nil => exact absurd rfl hwne
          | cons c cs => exact ⟨c, cs, rfl⟩
        have g3 : geti (α := UInt8) (c :: cs) (0 : Int) = some c := rfl
        simp only [i2, g2, g3]
        cases hc : ((((c.toNat : Nat) : Int) == (35 : Int)))
        rotate_left
        · simp only []
          exact ih m (i + 1) f s h out (by omega) (by omega) (by omega) h4
        · simp only []
          cases hf : (f == (0 : Int))
          · rw [hf] at h4
            subst h4
            simp only [Bool.not_false, Bool.not_true]
            obtain ⟨x, b, e1, e2⟩ := call_eq N hN ((c :: cs) :: ps) (c :: cs) rfl (by omega)
            simp only [e1, e2]
            cases b
            · simp only [Bool.not_false]
              exact both_bad _ rfl rfl
            · simp only [Bool.not_true]
              cases h60 : ((((List.length (α := CallD) out) : Nat) : Int) == (60 : Int))
              rotate_left
              · exact both_bad _ rfl rfl
              · simp only []
                have hb : ∀ y : CallD, Nat.ble (List.length (α := CallD) out + List.length (α := CallD) [y]) bnd = true := by intro y; simp [bnd]; omega
                simp only [hb]
                exact ih m (i + 1) f s true _ (by omega) (by omega) (by simp; omega) (by rw [hf]; rfl)
          · rw [hf] at h4
            subst h4
            simp only [Bool.not_true, Bool.not_false]
            have g0 : geti (α := List UInt8) ((c :: cs) :: ps) (0 : Int) = some (c :: cs) := rfl
            rw [P16_eq, t16]
            simp only [g0]
            cases hm : ((c :: cs : List UInt8) == ([109, 97, 99, 104, 105, 110, 101] : List UInt8))
            · simp only [Bool.not_false]
              refine both_bad ((i + 1 : Nat) : Int) ?_ ?_
              · cases ((((List.length (α := List UInt8) ((c :: cs) :: ps)) : Nat) : Int) != (3 : Int)) <;> rfl
              · rfl
            · simp only [Bool.not_true]
              cases h3' : ((((List.length (α := List UInt8) ((c :: cs) :: ps)) : Nat) : Int) != (3 : Int))
              rotate_left
              · simp only []
                exact both_bad _ rfl rfl
              · simp only []
                have hl3 : ((c :: cs) :: ps).length = 3 := by
                  have : ¬ (((((c :: cs) :: ps).length : Nat) : Int) ≠ 3) := by
                    intro hne
                    have : ((((((c :: cs) :: ps).length : Nat) : Int)) != (3 : Int)) = true := by simpa using hne
                    rw [this] at h3'
                    cases h3'
                  omega
                obtain ⟨w1, w2, rfl⟩ : ∃ w1 w2, ps = [w1, w2] := by
                  match ps, hl3 with
                  | [w1, w2], _ => exact ⟨w1, w2, rfl⟩
                have a1 : geti (α := List UInt8) [c :: cs, w1, w2] (1 : Int) = some w1 := rfl
                have a2 : geti (α := List UInt8) [c :: cs, w1, w2] (2 : Int) = some w2 := rfl
                have j1 : ∀ (ρ : Type) (k : Nat → Option ρ), idx (List.length (α := List UInt8) [c :: cs, w1, w2]) (1 : Int) k = k 1 := fun ρ k => rfl
                have j2 : ∀ (ρ : Type) (k : Nat → Option ρ), idx (List.length (α := List UInt8) [c :: cs, w1, w2]) (2 : Int) k = k 2 := fun ρ k => rfl
                have b1 : geN (α := List UInt8) [c :: cs, w1, w2] 1 = some w1 := rfl
                have b2 : geN (α := List UInt8) [c :: cs, w1, w2] 2 = some w2 := rfl
                obtain ⟨x, bx, x1, x2, x3, x4⟩ := readDec N (by omega) w1
                obtain ⟨y, byy, y1, y2, y3, y4⟩ := readDec N (by omega) w2
                obtain ⟨n1, n2, nb, m1, m2, m3⟩ := new_eq N hN x y y3 y4
                simp only [a1, a2, j1, j2, b1, b2, x1, x2, y1, y2, m1]
                cases bx
                · simp only [Bool.not_false]
                  exact both_bad _ rfl rfl
                · simp only [Bool.not_true]
                  cases byy
                  · simp only [Bool.not_false]
                    exact both_bad _ rfl rfl
                  · simp only [Bool.not_true, m2]
                    cases nb
                    · simp only [Bool.not_false]
                      exact both_bad _ rfl rfl
                    · simp only [Bool.not_true]
                      have hx : (x == (0 : Int)) = false := by simpa using m3 rfl
                      exact ih m (i + 1) x y true out (by omega) (by omega) (by omega) (by rw [hx]; rfl)

theorem read_eq (N : Nat) (hN : 1125899906842624 ≤ N) (a : List UInt8) (ha : a.length ≤ 1048576) : Both (P4 N a) (P5 N a) := by
  rw [P4_eq, P5_eq, t4, t5, linesOf_eq N hN a ha, lines_eq N hN a ha]
  by_cases h1 : a.length > 4000
  · have e1 : decide (((a.length : Nat) : Int) > 4000) = true := by simp; omega
    simp only [e1]
    exact both_bad (-1) rfl rfl
  · have e1 : decide (((a.length : Nat) : Int) > 4000) = false := by simp; omega
    simp only [e1]
    by_cases h2 : (lines a).length > 90
    · have e2 : decide ((((lines a).length : Nat) : Int) > 90) = true := by simp; omega
      simp only [e2]
      exact both_bad (-1) rfl rfl
    · have e2 : decide ((((lines a).length : Nat) : Int) > 90) = false := by simp; omega
      simp only [e2]
      exact main_loop N hN ((lines a, ()), ()) (lines a) rfl (by omega) (lines a).length N 0 0 0 false [] (by omega) (by omega) (by simp) rfl

theorem holds3 (N : Nat) (hN : 1125899906842624 ≤ N) (a : List UInt8) : P3 N a = some ((true, ()), ()) := by
  rw [P3_eq, t3]
  by_cases h1 : a.length > 1048576
  · have e1 : decide (((a.length : Nat) : Int) > 1048576) = true := by simp; omega
    rw [e1]
  · have e1 : decide (((a.length : Nat) : Int) > 1048576) = false := by simp; omega
    obtain ⟨⟨⟨f, s, out, w, ⟨⟩⟩, ⟨⟩⟩, r1, r2, r3⟩ := read_eq N hN a (by omega)
    have hR : reachBytes = 140737488351232 := rfl
    have r3 : out.length ≤ 1000 := r3
    obtain ⟨v, hv, hiff⟩ := tells6 N hN out out (by omega)
    have hvt : v = true := hiff.2 rfl
    subst hvt
    obtain ⟨q, l', q0, q1, q2⟩ := marked N hN out (by omega)
    have hq : decide (q < 0) = false := by simp; omega
    simp only [e1, r1, r2, bne_yes, hv, Bool.not_true, q1, q2, hq]
end Go.Proofs.YtilhlmedhgonbaaDoor
