/- SamePlain's law over the pure functions: the program's and the reference's SamePlain both tell whether two plains are one, and the copies that the law makes are what was copied. -/
import Derived.Test.YtilhlmedhgonbaaB
namespace Go.Proofs.Ytilhlmedhgonbaa
open Go.TM
set_option autoImplicit false
set_option linter.unusedVariables false
set_option linter.unusedSimpArgs false
set_option maxRecDepth 100000

theorem eqReg (x y : Int × (Int × (Bool × Unit))) : eqD (.cons (.int .i64) (.cons (.int .i64) (.cons .bool .unit))) x y = decide (x = y) := by
  obtain ⟨x1, x2, x3, ⟨⟩⟩ := x
  obtain ⟨y1, y2, y3, ⟨⟩⟩ := y
  show ((x1 == y1) && ((x2 == y2) && ((x3 == y3) && true))) = _
  rw [Bool.eq_iff_iff]
  simp
theorem beq_no {a b : Int} (h : ¬ a = b) : (a == b) = false := by simpa using h
theorem bne_no {a b : Int} (h : ¬ a = b) : (a != b) = true := by simpa using h
theorem beq_yes (a : Int) : (a == a) = true := by simp
theorem bne_yes (a : Int) : (a != a) = false := by simp
theorem bbq_no {a b : Bool} (h : ¬ a = b) : (!(a == b)) = true := by simpa using h
theorem bbq_yes (a : Bool) : (!(a == a)) = false := by simp

theorem tells19 (N : Nat) (hN : 1125899906842624 ≤ N) (a b : List (Int)) (ha : wfD (.slice (.int .i64)) a) (hb : wfD (.slice (.int .i64)) b) : Tells (P19 N a b) (a = b) := by
  rw [P19_eq]
  have hlen : a.length ≤ reachBytes := ha.1
  have hR : reachBytes = 140737488351232 := rfl
  refine eq_list hN hlen (fun m i => L19_0 N a b m i (some ((false, ()), ())) (some ((true, ()), ()))) (by rw [t19]; rfl) ?_ ?_
  · intro m
    show L19_0 N a b (m + 1) _ _ _ = _
    rw [L19_0]
    have hlt : decide (((a.length : Nat) : Int) < ((a.length : Nat) : Int)) = false := by simp
    rw [hlt]
  · intro m i x y hi hx hy
    have hlt : decide (((i : Nat) : Int) < ((a.length : Nat) : Int)) = true := by simpa using hi
    show (x = y → L19_0 N a b (m + 1) _ _ _ = L19_0 N a b m _ _ _) ∧ (x ≠ y → L19_0 N a b (m + 1) _ _ _ = _)
    have hw := wrap_succ (n := i) (by omega)
    rw [L19_0, hlt]
    simp only [geti_nat, hx, hy, hw]
    refine ⟨fun h => ?_, fun h => ?_⟩
    · have ht : (x != y) = false := by subst h; simp
      rw [ht]
    · have ht : (x != y) = true := by simpa using h
      rw [ht]

theorem tells26 (N : Nat) (hN : 1125899906842624 ≤ N) (a b : List (Int)) (ha : wfD (.slice (.int .i64)) a) (hb : wfD (.slice (.int .i64)) b) : Tells (P26 N a b) (a = b) := by
  rw [P26_eq]
  have hlen : a.length ≤ reachBytes := ha.1
  have hR : reachBytes = 140737488351232 := rfl
  refine eq_list hN hlen (fun m i => L26_0 N a b m i (some ((false, ()), ())) (some ((true, ()), ()))) (by rw [t26]; rfl) ?_ ?_
  · intro m
    show L26_0 N a b (m + 1) _ _ _ = _
    rw [L26_0]
    have hlt : decide (((a.length : Nat) : Int) < ((a.length : Nat) : Int)) = false := by simp
    rw [hlt]
  · intro m i x y hi hx hy
    have hlt : decide (((i : Nat) : Int) < ((a.length : Nat) : Int)) = true := by simpa using hi
    show (x = y → L26_0 N a b (m + 1) _ _ _ = L26_0 N a b m _ _ _) ∧ (x ≠ y → L26_0 N a b (m + 1) _ _ _ = _)
    have hw := wrap_succ (n := i) (by omega)
    rw [L26_0, hlt]
    simp only [geti_nat, hx, hy, hw]
    refine ⟨fun h => ?_, fun h => ?_⟩
    · have ht : (x != y) = false := by subst h; simp
      rw [ht]
    · have ht : (x != y) = true := by simpa using h
      rw [ht]

theorem tells51 (N : Nat) (hN : 1125899906842624 ≤ N) (a b : List (Int)) (ha : wfD (.slice (.int .i64)) a) (hb : wfD (.slice (.int .i64)) b) : Tells (P51 N a b) (a = b) := by
  rw [P51_eq]
  have hlen : a.length ≤ reachBytes := ha.1
  have hR : reachBytes = 140737488351232 := rfl
  refine eq_list hN hlen (fun m i => L51_0 N a b m i (some ((false, ()), ())) (some ((true, ()), ()))) (by rw [t51]; rfl) ?_ ?_
  · intro m
    show L51_0 N a b (m + 1) _ _ _ = _
    rw [L51_0]
    have hlt : decide (((a.length : Nat) : Int) < ((a.length : Nat) : Int)) = false := by simp
    rw [hlt]
  · intro m i x y hi hx hy
    have hlt : decide (((i : Nat) : Int) < ((a.length : Nat) : Int)) = true := by simpa using hi
    show (x = y → L51_0 N a b (m + 1) _ _ _ = L51_0 N a b m _ _ _) ∧ (x ≠ y → L51_0 N a b (m + 1) _ _ _ = _)
    have hw := wrap_succ (n := i) (by omega)
    rw [L51_0, hlt]
    simp only [geti_nat, hx, hy, hw]
    refine ⟨fun h => ?_, fun h => ?_⟩
    · have ht : (x != y) = false := by subst h; simp
      rw [ht]
    · have ht : (x != y) = true := by simpa using h
      rw [ht]

theorem tells32 (N : Nat) (hN : 1125899906842624 ≤ N) (a b : List (Bool)) (ha : wfD (.slice .bool) a) (hb : wfD (.slice .bool) b) : Tells (P32 N a b) (a = b) := by
  rw [P32_eq]
  have hlen : a.length ≤ reachBytes := ha.1
  have hR : reachBytes = 140737488351232 := rfl
  refine eq_list hN hlen (fun m i => L32_0 N a b m i (some ((false, ()), ())) (some ((true, ()), ()))) (by rw [t32]; rfl) ?_ ?_
  · intro m
    show L32_0 N a b (m + 1) _ _ _ = _
    rw [L32_0]
    have hlt : decide (((a.length : Nat) : Int) < ((a.length : Nat) : Int)) = false := by simp
    rw [hlt]
  · intro m i x y hi hx hy
    have hlt : decide (((i : Nat) : Int) < ((a.length : Nat) : Int)) = true := by simpa using hi
    show (x = y → L32_0 N a b (m + 1) _ _ _ = L32_0 N a b m _ _ _) ∧ (x ≠ y → L32_0 N a b (m + 1) _ _ _ = _)
    have hw := wrap_succ (n := i) (by omega)
    rw [L32_0, hlt]
    simp only [geti_nat, hx, hy, hw]
    refine ⟨fun h => ?_, fun h => ?_⟩
    · have ht : (!(x == y)) = false := by subst h; simp
      rw [ht]
    · have ht : (!(x == y)) = true := by simpa using h
      rw [ht]

theorem tells33 (N : Nat) (hN : 1125899906842624 ≤ N) (a b : List (Bool)) (ha : wfD (.slice .bool) a) (hb : wfD (.slice .bool) b) : Tells (P33 N a b) (a = b) := by
  rw [P33_eq]
  have hlen : a.length ≤ reachBytes := ha.1
  have hR : reachBytes = 140737488351232 := rfl
  refine eq_list hN hlen (fun m i => L33_0 N a b m i (some ((false, ()), ())) (some ((true, ()), ()))) (by rw [t33]; rfl) ?_ ?_
  · intro m
    show L33_0 N a b (m + 1) _ _ _ = _
    rw [L33_0]
    have hlt : decide (((a.length : Nat) : Int) < ((a.length : Nat) : Int)) = false := by simp
    rw [hlt]
  · intro m i x y hi hx hy
    have hlt : decide (((i : Nat) : Int) < ((a.length : Nat) : Int)) = true := by simpa using hi
    show (x = y → L33_0 N a b (m + 1) _ _ _ = L33_0 N a b m _ _ _) ∧ (x ≠ y → L33_0 N a b (m + 1) _ _ _ = _)
    have hw := wrap_succ (n := i) (by omega)
    rw [L33_0, hlt]
    simp only [geti_nat, hx, hy, hw]
    refine ⟨fun h => ?_, fun h => ?_⟩
    · have ht : (!(x == y)) = false := by subst h; simp
      rw [ht]
    · have ht : (!(x == y)) = true := by simpa using h
      rw [ht]

theorem tells31 (N : Nat) (hN : 1125899906842624 ≤ N) (a b : List (Int × (Int × (Bool × Unit)))) (ha : wfD (.slice (.cons (.int .i64) (.cons (.int .i64) (.cons .bool .unit)))) a) (hb : wfD (.slice (.cons (.int .i64) (.cons (.int .i64) (.cons .bool .unit)))) b) : Tells (P31 N a b) (a = b) := by
  rw [P31_eq]
  have hlen : a.length ≤ reachBytes := ha.1
  have hR : reachBytes = 140737488351232 := rfl
  refine eq_list hN hlen (fun m i => L31_0 N a b m i (some ((false, ()), ())) (some ((true, ()), ()))) (by rw [t31]; rfl) ?_ ?_
  · intro m
    show L31_0 N a b (m + 1) _ _ _ = _
    rw [L31_0]
    have hlt : decide (((a.length : Nat) : Int) < ((a.length : Nat) : Int)) = false := by simp
    rw [hlt]
  · intro m i x y hi hx hy
    have hlt : decide (((i : Nat) : Int) < ((a.length : Nat) : Int)) = true := by simpa using hi
    show (x = y → L31_0 N a b (m + 1) _ _ _ = L31_0 N a b m _ _ _) ∧ (x ≠ y → L31_0 N a b (m + 1) _ _ _ = _)
    have hw := wrap_succ (n := i) (by omega)
    rw [L31_0, hlt]
    simp only [geti_nat, hx, hy, hw, eqReg]
    refine ⟨fun h => ?_, fun h => ?_⟩
    · rw [decide_eq_true h]
      rfl
    · rw [decide_eq_false h]
      rfl

theorem tells30 (N : Nat) (hN : 1125899906842624 ≤ N) (a b : List (Int × (Int × (Bool × Unit)))) (ha : wfD (.slice (.cons (.int .i64) (.cons (.int .i64) (.cons .bool .unit)))) a) (hb : wfD (.slice (.cons (.int .i64) (.cons (.int .i64) (.cons .bool .unit)))) b) : Tells (P30 N a b) (a = b) := by
  rw [P30_eq, t30]
  obtain ⟨v, hv, hiff⟩ := tells31 N hN a b ha hb
  rw [hv]
  exact ⟨v, rfl, hiff⟩

theorem tells25 (N : Nat) (hN : 1125899906842624 ≤ N) (a b : Int × (Int × (List Int × Unit))) (ha : wfD (.cons (.int .i64) (.cons (.int .i64) (.cons (.slice (.int .i64)) .unit))) a) (hb : wfD (.cons (.int .i64) (.cons (.int .i64) (.cons (.slice (.int .i64)) .unit))) b) : Tells (P25 N a b) (a = b) := by
  rw [P25_eq, t25]
  obtain ⟨a1, a2, aw, ⟨⟩⟩ := a
  obtain ⟨b1, b2, bw, ⟨⟩⟩ := b
  obtain ⟨v, hv, hiff⟩ := tells26 N hN aw bw ha.2.2.1 hb.2.2.1
  dsimp only
  by_cases h1 : a1 = b1
  rotate_left
  · rw [beq_no h1]
    exact tells_false rfl (fun h => h1 (by simp only [Prod.mk.injEq] at h; exact h.1))
  subst h1
  rw [beq_yes a1]
  dsimp only
  by_cases h2 : a2 = b2
  rotate_left
  · rw [beq_no h2]
    exact tells_false rfl (fun h => h2 (by simp only [Prod.mk.injEq] at h; exact h.2.1))
  subst h2
  rw [beq_yes a2]
  dsimp only
  rw [hv]
  exact ⟨v, rfl, by rw [hiff]; simp⟩

theorem tells45 (N : Nat) (hN : 1125899906842624 ≤ N) (a b : Int × (Int × (List Int × Unit))) (ha : wfD (.cons (.int .i64) (.cons (.int .i64) (.cons (.slice (.int .i64)) .unit))) a) (hb : wfD (.cons (.int .i64) (.cons (.int .i64) (.cons (.slice (.int .i64)) .unit))) b) : Tells (P45 N a b) (a = b) := by
  rw [P45_eq, t45]
  obtain ⟨a1, a2, aw, ⟨⟩⟩ := a
  obtain ⟨b1, b2, bw, ⟨⟩⟩ := b
  obtain ⟨v, hv, hiff⟩ := tells51 N hN aw bw ha.2.2.1 hb.2.2.1
  dsimp only
  by_cases h1 : a1 = b1
  rotate_left
  · rw [bne_no h1]
    exact tells_false rfl (fun h => h1 (by simp only [Prod.mk.injEq] at h; exact h.1))
  subst h1
  rw [bne_yes a1]
  dsimp only
  by_cases h2 : a2 = b2
  rotate_left
  · rw [bne_no h2]
    exact tells_false rfl (fun h => h2 (by simp only [Prod.mk.injEq] at h; exact h.2.1))
  subst h2
  rw [bne_yes a2]
  dsimp only
  rw [hv]
  cases v
  · exact ⟨false, rfl, by rw [hiff]; simp⟩
  · exact ⟨true, rfl, by rw [hiff]; simp⟩

theorem tells28 (N : Nat) (hN : 1125899906842624 ≤ N) (a b : Int × (List Int × Unit)) (ha : wfD (.cons (.int .i64) (.cons (.slice (.int .i64)) .unit)) a) (hb : wfD (.cons (.int .i64) (.cons (.slice (.int .i64)) .unit)) b) : Tells (P28 N a b) (a = b) := by
  rw [P28_eq, t28]
  obtain ⟨a1, aw, ⟨⟩⟩ := a
  obtain ⟨b1, bw, ⟨⟩⟩ := b
  obtain ⟨v, hv, hiff⟩ := tells26 N hN aw bw ha.2.1 hb.2.1
  dsimp only
  by_cases h1 : a1 = b1
  rotate_left
  · rw [beq_no h1]
    exact tells_false rfl (fun h => h1 (by simp only [Prod.mk.injEq] at h; exact h.1))
  subst h1
  rw [beq_yes a1]
  dsimp only
  rw [hv]
  exact ⟨v, rfl, by rw [hiff]; simp⟩

theorem tells46 (N : Nat) (hN : 1125899906842624 ≤ N) (a b : Int × (List Int × Unit)) (ha : wfD (.cons (.int .i64) (.cons (.slice (.int .i64)) .unit)) a) (hb : wfD (.cons (.int .i64) (.cons (.slice (.int .i64)) .unit)) b) : Tells (P46 N a b) (a = b) := by
  rw [P46_eq, t46]
  obtain ⟨a1, aw, ⟨⟩⟩ := a
  obtain ⟨b1, bw, ⟨⟩⟩ := b
  obtain ⟨v, hv, hiff⟩ := tells51 N hN aw bw ha.2.1 hb.2.1
  dsimp only
  by_cases h1 : a1 = b1
  rotate_left
  · rw [bne_no h1]
    exact tells_false rfl (fun h => h1 (by simp only [Prod.mk.injEq] at h; exact h.1))
  subst h1
  rw [bne_yes a1]
  dsimp only
  rw [hv]
  cases v
  · exact ⟨false, rfl, by rw [hiff]; simp⟩
  · exact ⟨true, rfl, by rw [hiff]; simp⟩

theorem tells50 (N : Nat) (hN : 1125899906842624 ≤ N) (a b : Int × (Int × (Bool × Unit))) (ha : wfD (.cons (.int .i64) (.cons (.int .i64) (.cons .bool .unit))) a) (hb : wfD (.cons (.int .i64) (.cons (.int .i64) (.cons .bool .unit))) b) : Tells (P50 N a b) (a = b) := by
  rw [P50_eq, t50]
  obtain ⟨a1, a2, a3, ⟨⟩⟩ := a
  obtain ⟨b1, b2, b3, ⟨⟩⟩ := b
  dsimp only
  by_cases h1 : a1 = b1
  rotate_left
  · rw [bne_no h1]
    exact tells_false rfl (fun h => h1 (by simp only [Prod.mk.injEq] at h; exact h.1))
  subst h1
  rw [bne_yes a1]
  dsimp only
  by_cases h2 : a2 = b2
  rotate_left
  · rw [bne_no h2]
    exact tells_false rfl (fun h => h2 (by simp only [Prod.mk.injEq] at h; exact h.2.1))
  subst h2
  rw [bne_yes a2]
  dsimp only
  by_cases h3 : a3 = b3
  rotate_left
  · rw [bbq_no h3]
    exact tells_false rfl (fun h => h3 (by simp only [Prod.mk.injEq] at h; exact h.2.2.1))
  subst h3
  rw [bbq_yes a3]
  dsimp only
  exact tells_true rfl rfl

theorem tells24c25 (N : Nat) (hN : 1125899906842624 ≤ N) (a b : List (Int × (Int × (List Int × Unit)))) (ha : wfD (.slice (.cons (.int .i64) (.cons (.int .i64) (.cons (.slice (.int .i64)) .unit)))) a) (hb : wfD (.slice (.cons (.int .i64) (.cons (.int .i64) (.cons (.slice (.int .i64)) .unit)))) b) : Tells (P24c25 N a b) (a = b) := by
  rw [P24c25_eq]
  have hlen : a.length ≤ reachBytes := ha.1
  have hR : reachBytes = 140737488351232 := rfl
  refine eq_list hN hlen (fun m i => L24c25_0 N a b m i (some ((false, ()), ())) (some ((true, ()), ()))) (by rw [t24c25]; rfl) ?_ ?_
  · intro m
    show L24c25_0 N a b (m + 1) _ _ _ = _
    rw [L24c25_0]
    have hlt : decide (((a.length : Nat) : Int) < ((a.length : Nat) : Int)) = false := by simp
    rw [hlt]
  · intro m i x y hi hx hy
    have hlt : decide (((i : Nat) : Int) < ((a.length : Nat) : Int)) = true := by simpa using hi
    show (x = y → L24c25_0 N a b (m + 1) _ _ _ = L24c25_0 N a b m _ _ _) ∧ (x ≠ y → L24c25_0 N a b (m + 1) _ _ _ = _)
    have hw := wrap_succ (n := i) (by omega)
    obtain ⟨v, hv, hiff⟩ := tells25 N hN x y (ha.2 x (List.mem_of_getElem? hx)) (hb.2 y (List.mem_of_getElem? hy))
    rw [L24c25_0, hlt]
    simp only [geti_nat, hx, hy, hv, hw]
    cases v
    · exact ⟨fun h => absurd (hiff.2 h) (by simp), fun _ => rfl⟩
    · exact ⟨fun _ => rfl, fun h => absurd (hiff.1 rfl) h⟩

theorem tells27c28 (N : Nat) (hN : 1125899906842624 ≤ N) (a b : List (Int × (List Int × Unit))) (ha : wfD (.slice (.cons (.int .i64) (.cons (.slice (.int .i64)) .unit))) a) (hb : wfD (.slice (.cons (.int .i64) (.cons (.slice (.int .i64)) .unit))) b) : Tells (P27c28 N a b) (a = b) := by
  rw [P27c28_eq]
  have hlen : a.length ≤ reachBytes := ha.1
  have hR : reachBytes = 140737488351232 := rfl
  refine eq_list hN hlen (fun m i => L27c28_0 N a b m i (some ((false, ()), ())) (some ((true, ()), ()))) (by rw [t27c28]; rfl) ?_ ?_
  · intro m
    show L27c28_0 N a b (m + 1) _ _ _ = _
    rw [L27c28_0]
    have hlt : decide (((a.length : Nat) : Int) < ((a.length : Nat) : Int)) = false := by simp
    rw [hlt]
  · intro m i x y hi hx hy
    have hlt : decide (((i : Nat) : Int) < ((a.length : Nat) : Int)) = true := by simpa using hi
    show (x = y → L27c28_0 N a b (m + 1) _ _ _ = L27c28_0 N a b m _ _ _) ∧ (x ≠ y → L27c28_0 N a b (m + 1) _ _ _ = _)
    have hw := wrap_succ (n := i) (by omega)
    obtain ⟨v, hv, hiff⟩ := tells28 N hN x y (ha.2 x (List.mem_of_getElem? hx)) (hb.2 y (List.mem_of_getElem? hy))
    rw [L27c28_0, hlt]
    simp only [geti_nat, hx, hy, hv, hw]
    cases v
    · exact ⟨fun h => absurd (hiff.2 h) (by simp), fun _ => rfl⟩
    · exact ⟨fun _ => rfl, fun h => absurd (hiff.1 rfl) h⟩

theorem tells29c30 (N : Nat) (hN : 1125899906842624 ≤ N) (a b : List (List (Int × (Int × (Bool × Unit))))) (ha : wfD (.slice (.slice (.cons (.int .i64) (.cons (.int .i64) (.cons .bool .unit))))) a) (hb : wfD (.slice (.slice (.cons (.int .i64) (.cons (.int .i64) (.cons .bool .unit))))) b) : Tells (P29c30 N a b) (a = b) := by
  rw [P29c30_eq]
  have hlen : a.length ≤ reachBytes := ha.1
  have hR : reachBytes = 140737488351232 := rfl
  refine eq_list hN hlen (fun m i => L29c30_0 N a b m i (some ((false, ()), ())) (some ((true, ()), ()))) (by rw [t29c30]; rfl) ?_ ?_
  · intro m
    show L29c30_0 N a b (m + 1) _ _ _ = _
    rw [L29c30_0]
    have hlt : decide (((a.length : Nat) : Int) < ((a.length : Nat) : Int)) = false := by simp
    rw [hlt]
  · intro m i x y hi hx hy
    have hlt : decide (((i : Nat) : Int) < ((a.length : Nat) : Int)) = true := by simpa using hi
    show (x = y → L29c30_0 N a b (m + 1) _ _ _ = L29c30_0 N a b m _ _ _) ∧ (x ≠ y → L29c30_0 N a b (m + 1) _ _ _ = _)
    have hw := wrap_succ (n := i) (by omega)
    obtain ⟨v, hv, hiff⟩ := tells30 N hN x y (ha.2 x (List.mem_of_getElem? hx)) (hb.2 y (List.mem_of_getElem? hy))
    rw [L29c30_0, hlt]
    simp only [geti_nat, hx, hy, hv, hw]
    cases v
    · exact ⟨fun h => absurd (hiff.2 h) (by simp), fun _ => rfl⟩
    · exact ⟨fun _ => rfl, fun h => absurd (hiff.1 rfl) h⟩

theorem tells44 (N : Nat) (hN : 1125899906842624 ≤ N) (a b : List (Int × (Int × (Bool × Unit)))) (ha : wfD (.slice (.cons (.int .i64) (.cons (.int .i64) (.cons .bool .unit)))) a) (hb : wfD (.slice (.cons (.int .i64) (.cons (.int .i64) (.cons .bool .unit)))) b) : Tells (P44 N a b) (a = b) := by
  rw [P44_eq]
  have hlen : a.length ≤ reachBytes := ha.1
  have hR : reachBytes = 140737488351232 := rfl
  refine eq_list hN hlen (fun m i => L44_0 N a b m i (some ((false, ()), ())) (some ((true, ()), ()))) (by rw [t44]; rfl) ?_ ?_
  · intro m
    show L44_0 N a b (m + 1) _ _ _ = _
    rw [L44_0]
    have hlt : decide (((a.length : Nat) : Int) < ((a.length : Nat) : Int)) = false := by simp
    rw [hlt]
  · intro m i x y hi hx hy
    have hlt : decide (((i : Nat) : Int) < ((a.length : Nat) : Int)) = true := by simpa using hi
    show (x = y → L44_0 N a b (m + 1) _ _ _ = L44_0 N a b m _ _ _) ∧ (x ≠ y → L44_0 N a b (m + 1) _ _ _ = _)
    have hw := wrap_succ (n := i) (by omega)
    obtain ⟨v, hv, hiff⟩ := tells50 N hN x y (ha.2 x (List.mem_of_getElem? hx)) (hb.2 y (List.mem_of_getElem? hy))
    rw [L44_0, hlt]
    simp only [geti_nat, hx, hy, hv, hw]
    cases v
    · exact ⟨fun h => absurd (hiff.2 h) (by simp), fun _ => rfl⟩
    · exact ⟨fun _ => rfl, fun h => absurd (hiff.1 rfl) h⟩

theorem tells34 (N : Nat) (hN : 1125899906842624 ≤ N) (a b : List (List (Int × (Int × (Bool × Unit))))) (ha : wfD (.slice (.slice (.cons (.int .i64) (.cons (.int .i64) (.cons .bool .unit))))) a) (hb : wfD (.slice (.slice (.cons (.int .i64) (.cons (.int .i64) (.cons .bool .unit))))) b) : Tells (P34 N a b) (a = b) := by
  rw [P34_eq]
  have hlen : a.length ≤ reachBytes := ha.1
  have hR : reachBytes = 140737488351232 := rfl
  refine eq_list hN hlen (fun m i => L34_0 N a b m i (some ((false, ()), ())) (some ((true, ()), ()))) (by rw [t34]; rfl) ?_ ?_
  · intro m
    show L34_0 N a b (m + 1) _ _ _ = _
    rw [L34_0]
    have hlt : decide (((a.length : Nat) : Int) < ((a.length : Nat) : Int)) = false := by simp
    rw [hlt]
  · intro m i x y hi hx hy
    have hlt : decide (((i : Nat) : Int) < ((a.length : Nat) : Int)) = true := by simpa using hi
    show (x = y → L34_0 N a b (m + 1) _ _ _ = L34_0 N a b m _ _ _) ∧ (x ≠ y → L34_0 N a b (m + 1) _ _ _ = _)
    have hw := wrap_succ (n := i) (by omega)
    obtain ⟨v, hv, hiff⟩ := tells44 N hN x y (ha.2 x (List.mem_of_getElem? hx)) (hb.2 y (List.mem_of_getElem? hy))
    rw [L34_0, hlt]
    simp only [geti_nat, hx, hy, hv, hw]
    cases v
    · exact ⟨fun h => absurd (hiff.2 h) (by simp), fun _ => rfl⟩
    · exact ⟨fun _ => rfl, fun h => absurd (hiff.1 rfl) h⟩

theorem tells35 (N : Nat) (hN : 1125899906842624 ≤ N) (a b : List (Int × (Int × (List Int × Unit)))) (ha : wfD (.slice (.cons (.int .i64) (.cons (.int .i64) (.cons (.slice (.int .i64)) .unit)))) a) (hb : wfD (.slice (.cons (.int .i64) (.cons (.int .i64) (.cons (.slice (.int .i64)) .unit)))) b) : Tells (P35 N a b) (a = b) := by
  rw [P35_eq]
  have hlen : a.length ≤ reachBytes := ha.1
  have hR : reachBytes = 140737488351232 := rfl
  refine eq_list hN hlen (fun m i => L35_0 N a b m i (some ((false, ()), ())) (some ((true, ()), ()))) (by rw [t35]; rfl) ?_ ?_
  · intro m
    show L35_0 N a b (m + 1) _ _ _ = _
    rw [L35_0]
    have hlt : decide (((a.length : Nat) : Int) < ((a.length : Nat) : Int)) = false := by simp
    rw [hlt]
  · intro m i x y hi hx hy
    have hlt : decide (((i : Nat) : Int) < ((a.length : Nat) : Int)) = true := by simpa using hi
    show (x = y → L35_0 N a b (m + 1) _ _ _ = L35_0 N a b m _ _ _) ∧ (x ≠ y → L35_0 N a b (m + 1) _ _ _ = _)
    have hw := wrap_succ (n := i) (by omega)
    obtain ⟨v, hv, hiff⟩ := tells45 N hN x y (ha.2 x (List.mem_of_getElem? hx)) (hb.2 y (List.mem_of_getElem? hy))
    rw [L35_0, hlt]
    simp only [geti_nat, hx, hy, hv, hw]
    cases v
    · exact ⟨fun h => absurd (hiff.2 h) (by simp), fun _ => rfl⟩
    · exact ⟨fun _ => rfl, fun h => absurd (hiff.1 rfl) h⟩

theorem tells36 (N : Nat) (hN : 1125899906842624 ≤ N) (a b : List (Int × (List Int × Unit))) (ha : wfD (.slice (.cons (.int .i64) (.cons (.slice (.int .i64)) .unit))) a) (hb : wfD (.slice (.cons (.int .i64) (.cons (.slice (.int .i64)) .unit))) b) : Tells (P36 N a b) (a = b) := by
  rw [P36_eq]
  have hlen : a.length ≤ reachBytes := ha.1
  have hR : reachBytes = 140737488351232 := rfl
  refine eq_list hN hlen (fun m i => L36_0 N a b m i (some ((false, ()), ())) (some ((true, ()), ()))) (by rw [t36]; rfl) ?_ ?_
  · intro m
    show L36_0 N a b (m + 1) _ _ _ = _
    rw [L36_0]
    have hlt : decide (((a.length : Nat) : Int) < ((a.length : Nat) : Int)) = false := by simp
    rw [hlt]
  · intro m i x y hi hx hy
    have hlt : decide (((i : Nat) : Int) < ((a.length : Nat) : Int)) = true := by simpa using hi
    show (x = y → L36_0 N a b (m + 1) _ _ _ = L36_0 N a b m _ _ _) ∧ (x ≠ y → L36_0 N a b (m + 1) _ _ _ = _)
    have hw := wrap_succ (n := i) (by omega)
    obtain ⟨v, hv, hiff⟩ := tells46 N hN x y (ha.2 x (List.mem_of_getElem? hx)) (hb.2 y (List.mem_of_getElem? hy))
    rw [L36_0, hlt]
    simp only [geti_nat, hx, hy, hv, hw]
    cases v
    · exact ⟨fun h => absurd (hiff.2 h) (by simp), fun _ => rfl⟩
    · exact ⟨fun _ => rfl, fun h => absurd (hiff.1 rfl) h⟩
end Go.Proofs.Ytilhlmedhgonbaa
