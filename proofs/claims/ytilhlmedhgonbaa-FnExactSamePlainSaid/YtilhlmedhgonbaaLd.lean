/- SamePlain's law, third part: both SamePlains tell whether two plains are one; the law is true for all plains. -/
import Derived.Test.YtilhlmedhgonbaaLc
namespace Go.Proofs.Ytilhlmedhgonbaa
open Go.TM
set_option autoImplicit false
set_option linter.unusedVariables false
set_option linter.unusedSimpArgs false
set_option maxRecDepth 100000

theorem hRb : reachBytes = 140737488351232 := rfl

theorem loop9_0 {ρ : Type} (N : Nat) (hN : 1125899906842624 ≤ N) (a b : PlainD) (ha : wfD PlainT a) (k0 k1 : Option ρ) (hl : a.1.length = b.1.length) :
    (a.1 = b.1 → L9_0 N a b N (0 : Int) k0 k1 = k1) ∧ (a.1 ≠ b.1 → L9_0 N a b N (0 : Int) k0 k1 = k0) := by
  have hlen : a.1.length ≤ reachBytes := ha.1.1
  have hR := hRb
  have h := eq_loop (a := a.1) (b := b.1) (k0 := k0) (k1 := k1) (fun m i => L9_0 N a b m i k0 k1) hl ?_ ?_ N 0 (by omega) (Nat.zero_le _)
  · simpa using h
  · intro m
    show L9_0 N a b (m + 1) _ _ _ = _
    rw [L9_0]
    have hlt : decide (((a.1.length : Nat) : Int) < ((a.1.length : Nat) : Int)) = false := by simp
    rw [hlt]
  · intro m i x y hi hx hy
    have hlt : decide (((i : Nat) : Int) < ((a.1.length : Nat) : Int)) = true := by simpa using hi
    have hw := wrap_succ (n := i) (by omega)
    show (x = y → L9_0 N a b (m + 1) _ _ _ = L9_0 N a b m _ _ _) ∧ (x ≠ y → L9_0 N a b (m + 1) _ _ _ = _)
    rw [L9_0, hlt]
    simp only [geti_nat, hx, hy, hw]
    refine ⟨fun h => ?_, fun h => ?_⟩
    · have ht : (!(x == y)) = false := by subst h; simp
      rw [ht]
    · have ht : (!(x == y)) = true := by simpa using h
      rw [ht]

theorem loop9_2 {ρ : Type} (N : Nat) (hN : 1125899906842624 ≤ N) (a b : PlainD) (j : Nat) (xs ys : List (Int × (Int × (Bool × Unit)))) (hxs : a.2.1[j]? = some xs) (hys : b.2.1[j]? = some ys) (hlen : xs.length ≤ reachBytes) (k0 k1 : Option ρ) (hl : xs.length = ys.length) :
    (xs = ys → L9_2 N a b (j : Int) N (0 : Int) k0 k1 = k1) ∧ (xs ≠ ys → L9_2 N a b (j : Int) N (0 : Int) k0 k1 = k0) := by
  have hR := hRb
  have h := eq_loop (a := xs) (b := ys) (k0 := k0) (k1 := k1) (fun m i => L9_2 N a b (j : Int) m i k0 k1) hl ?_ ?_ N 0 (by omega) (Nat.zero_le _)
  · simpa using h
  · intro m
    show L9_2 N a b (j : Int) (m + 1) _ _ _ = _
    rw [L9_2]
    have hlt : decide (((xs.length : Nat) : Int) < ((xs.length : Nat) : Int)) = false := by simp
    simp only [geti_nat, hxs, hys, hlt]
  · intro m i x y hi hx hy
    have hlt : decide (((i : Nat) : Int) < ((xs.length : Nat) : Int)) = true := by simpa using hi
    have hw := wrap_succ (n := i) (by omega)
    show (x = y → L9_2 N a b (j : Int) (m + 1) _ _ _ = L9_2 N a b (j : Int) m _ _ _) ∧ (x ≠ y → L9_2 N a b (j : Int) (m + 1) _ _ _ = _)
    rw [L9_2]
    simp only [geti_nat, hxs, hys, hlt, hx, hy, hw, eqReg]
    refine ⟨fun h => ?_, fun h => ?_⟩
    · rw [decide_eq_true h]
      rfl
    · rw [decide_eq_false h]
      rfl

theorem loop9_1 {ρ : Type} (N : Nat) (hN : 1125899906842624 ≤ N) (a b : PlainD) (ha : wfD PlainT a) (k0 k1 : Option ρ) (hl : a.2.1.length = b.2.1.length) :
    (a.2.1 = b.2.1 → L9_1 N a b N (0 : Int) k0 k1 = k1) ∧ (a.2.1 ≠ b.2.1 → L9_1 N a b N (0 : Int) k0 k1 = k0) := by
  have hlen : a.2.1.length ≤ reachBytes := ha.2.1.1
  have hR := hRb
  have h := eq_loop (a := a.2.1) (b := b.2.1) (k0 := k0) (k1 := k1) (fun m i => L9_1 N a b m i k0 k1) hl ?_ ?_ N 0 (by omega) (Nat.zero_le _)
  · simpa using h
  · intro m
    show L9_1 N a b (m + 1) _ _ _ = _
    rw [L9_1]
    have hlt : decide (((a.2.1.length : Nat) : Int) < ((a.2.1.length : Nat) : Int)) = false := by simp
    rw [hlt]
  · intro m i x y hi hx hy
    have hlt : decide (((i : Nat) : Int) < ((a.2.1.length : Nat) : Int)) = true := by simpa using hi
    have hw := wrap_succ (n := i) (by omega)
    have hxl : x.length ≤ reachBytes := (ha.2.1.2 x (List.mem_of_getElem? hx)).1
    show (x = y → L9_1 N a b (m + 1) _ _ _ = L9_1 N a b m _ _ _) ∧ (x ≠ y → L9_1 N a b (m + 1) _ _ _ = _)
    rw [L9_1, hlt]
    simp only [geti_nat, hx, hy, hw]
    by_cases hxy : x.length = y.length
    · have ht : (((x.length : Nat) : Int) != ((y.length : Nat) : Int)) = false := by simp [hxy]
      rw [ht]
      obtain ⟨s1, s2⟩ := loop9_2 N hN a b i x y hx hy hxl k0 (L9_1 N a b m ((i + 1 : Nat) : Int) k0 k1) hxy
      exact ⟨s1, s2⟩
    · have ht : (((x.length : Nat) : Int) != ((y.length : Nat) : Int)) = true := by simp; omega
      rw [ht]
      exact ⟨fun h => absurd (by rw [h]) hxy, fun _ => rfl⟩

theorem loop9_3 {ρ : Type} (N : Nat) (hN : 1125899906842624 ≤ N) (a b : PlainD) (ha : wfD PlainT a) (hb : wfD PlainT b) (k0 k1 : Option ρ) (hl : a.2.2.1.length = b.2.2.1.length) :
    (a.2.2.1 = b.2.2.1 → L9_3 N a b N (0 : Int) k0 k1 = k1) ∧ (a.2.2.1 ≠ b.2.2.1 → L9_3 N a b N (0 : Int) k0 k1 = k0) := by
  have hlen : a.2.2.1.length ≤ reachBytes := ha.2.2.1.1
  have hR := hRb
  have h := eq_loop (a := a.2.2.1) (b := b.2.2.1) (k0 := k0) (k1 := k1) (fun m i => L9_3 N a b m i k0 k1) hl ?_ ?_ N 0 (by omega) (Nat.zero_le _)
  · simpa using h
  · intro m
    show L9_3 N a b (m + 1) _ _ _ = _
    rw [L9_3]
    have hlt : decide (((a.2.2.1.length : Nat) : Int) < ((a.2.2.1.length : Nat) : Int)) = false := by simp
    rw [hlt]
  · intro m i x y hi hx hy
    have hlt : decide (((i : Nat) : Int) < ((a.2.2.1.length : Nat) : Int)) = true := by simpa using hi
    have hw := wrap_succ (n := i) (by omega)
    obtain ⟨v, hv, hiff⟩ := tells19 N hN x.2.2.1 y.2.2.1 (ha.2.2.1.2 x (List.mem_of_getElem? hx)).2.2.1 (hb.2.2.1.2 y (List.mem_of_getElem? hy)).2.2.1
    show (x = y → L9_3 N a b (m + 1) _ _ _ = L9_3 N a b m _ _ _) ∧ (x ≠ y → L9_3 N a b (m + 1) _ _ _ = _)
    rw [L9_3, hlt]
    simp only [geti_nat, hx, hy, hw, hv]
    obtain ⟨x1, x2, x3, ⟨⟩⟩ := x
    obtain ⟨y1, y2, y3, ⟨⟩⟩ := y
    dsimp only at hiff ⊢
    by_cases h1 : x1 = y1
    rotate_left
    · rw [bne_no h1]
      exact ⟨fun h => absurd (by simp only [Prod.mk.injEq] at h; exact h.1) h1, fun _ => rfl⟩
    subst h1
    rw [bne_yes]
    dsimp only
    by_cases h2 : x2 = y2
    rotate_left
    · rw [bne_no h2]
      exact ⟨fun h => absurd (by simp only [Prod.mk.injEq] at h; exact h.2.1) h2, fun _ => rfl⟩
    subst h2
    rw [bne_yes]
    cases v
    · exact ⟨fun h => absurd (hiff.2 (by simp only [Prod.mk.injEq] at h; exact h.2.2.1)) (by simp), fun _ => rfl⟩
    · exact ⟨fun _ => rfl, fun h => absurd (by rw [hiff.1 rfl]) h⟩

theorem loop9_4 {ρ : Type} (N : Nat) (hN : 1125899906842624 ≤ N) (a b : PlainD) (ha : wfD PlainT a) (hb : wfD PlainT b) (k0 k1 : Option ρ) (hl : a.2.2.2.1.length = b.2.2.2.1.length) :
    (a.2.2.2.1 = b.2.2.2.1 → L9_4 N a b N (0 : Int) k0 k1 = k1) ∧ (a.2.2.2.1 ≠ b.2.2.2.1 → L9_4 N a b N (0 : Int) k0 k1 = k0) := by
  have hlen : a.2.2.2.1.length ≤ reachBytes := ha.2.2.2.1.1
  have hR := hRb
  have h := eq_loop (a := a.2.2.2.1) (b := b.2.2.2.1) (k0 := k0) (k1 := k1) (fun m i => L9_4 N a b m i k0 k1) hl ?_ ?_ N 0 (by omega) (Nat.zero_le _)
  · simpa using h
  · intro m
    show L9_4 N a b (m + 1) _ _ _ = _
    rw [L9_4]
    have hlt : decide (((a.2.2.2.1.length : Nat) : Int) < ((a.2.2.2.1.length : Nat) : Int)) = false := by simp
    rw [hlt]
  · intro m i x y hi hx hy
    have hlt : decide (((i : Nat) : Int) < ((a.2.2.2.1.length : Nat) : Int)) = true := by simpa using hi
    have hw := wrap_succ (n := i) (by omega)
    obtain ⟨v, hv, hiff⟩ := tells19 N hN x.2.1 y.2.1 (ha.2.2.2.1.2 x (List.mem_of_getElem? hx)).2.1 (hb.2.2.2.1.2 y (List.mem_of_getElem? hy)).2.1
    show (x = y → L9_4 N a b (m + 1) _ _ _ = L9_4 N a b m _ _ _) ∧ (x ≠ y → L9_4 N a b (m + 1) _ _ _ = _)
    rw [L9_4, hlt]
    simp only [geti_nat, hx, hy, hw, hv]
    obtain ⟨x1, x3, ⟨⟩⟩ := x
    obtain ⟨y1, y3, ⟨⟩⟩ := y
    dsimp only at hiff ⊢
    by_cases h1 : x1 = y1
    rotate_left
    · rw [bne_no h1]
      exact ⟨fun h => absurd (by simp only [Prod.mk.injEq] at h; exact h.1) h1, fun _ => rfl⟩
    subst h1
    rw [bne_yes]
    cases v
    · exact ⟨fun h => absurd (hiff.2 (by simp only [Prod.mk.injEq] at h; exact h.2.1)) (by simp), fun _ => rfl⟩
    · exact ⟨fun _ => rfl, fun h => absurd (by rw [hiff.1 rfl]) h⟩

theorem len_ne {α : Type} {x y : List α} (h : ¬ x.length = y.length) : (((x.length : Nat) : Int) != ((y.length : Nat) : Int)) = true := by simp; omega
theorem len_eq {α : Type} {x y : List α} (h : x.length = y.length) : (((x.length : Nat) : Int) != ((y.length : Nat) : Int)) = false := by simp [h]

theorem tells9 (N : Nat) (hN : 1125899906842624 ≤ N) (a b : PlainD) (ha : wfD PlainT a) (hb : wfD PlainT b) : Tells (P9 N a b) (a = b) := by
  rw [P9_eq, t9]
  by_cases l1 : a.1.length = b.1.length
  · rw [len_eq l1]
    by_cases l2 : a.2.1.length = b.2.1.length
    · simp only []
      rw [len_eq l2]
      by_cases l3 : a.2.2.1.length = b.2.2.1.length
      · simp only []
        rw [len_eq l3]
        by_cases l4 : a.2.2.2.1.length = b.2.2.2.1.length
        · simp only []
          rw [len_eq l4]
          by_cases l5 : a.2.2.2.2.1 = b.2.2.2.2.1
          · have e5 : (a.2.2.2.2.1 != b.2.2.2.2.1) = false := by simpa using l5
            simp only [e5]
            by_cases h1 : a.1 = b.1
            · rw [(loop9_0 N hN a b ha _ _ l1).1 h1]
              by_cases h2 : a.2.1 = b.2.1
              · rw [(loop9_1 N hN a b ha _ _ l2).1 h2]
                by_cases h3 : a.2.2.1 = b.2.2.1
                · rw [(loop9_3 N hN a b ha hb _ _ l3).1 h3]
                  by_cases h4 : a.2.2.2.1 = b.2.2.2.1
                  · rw [(loop9_4 N hN a b ha hb _ _ l4).1 h4]
                    refine tells_true rfl ?_
                    obtain ⟨a1, a2, a3, a4, a5, ⟨⟩⟩ := a
                    obtain ⟨b1, b2, b3, b4, b5, ⟨⟩⟩ := b
                    simp only at h1 h2 h3 h4 l5
                    rw [h1, h2, h3, h4, l5]
                  · rw [(loop9_4 N hN a b ha hb _ _ l4).2 h4]
                    exact tells_false rfl (fun h => h4 (by rw [h]))
                · rw [(loop9_3 N hN a b ha hb _ _ l3).2 h3]
                  exact tells_false rfl (fun h => h3 (by rw [h]))
              · rw [(loop9_1 N hN a b ha _ _ l2).2 h2]
                exact tells_false rfl (fun h => h2 (by rw [h]))
            · rw [(loop9_0 N hN a b ha _ _ l1).2 h1]
              exact tells_false rfl (fun h => h1 (by rw [h]))
          · have e5 : (a.2.2.2.2.1 != b.2.2.2.2.1) = true := by simpa using l5
            simp only [e5]
            exact tells_false rfl (fun h => l5 (by rw [h]))
        · simp only []
          rw [len_ne l4]
          exact tells_false rfl (fun h => l4 (by rw [h]))
      · simp only []
        rw [len_ne l3]
        exact tells_false rfl (fun h => l3 (by rw [h]))
    · simp only []
      rw [len_ne l2]
      exact tells_false rfl (fun h => l2 (by rw [h]))
  · rw [len_ne l1]
    exact tells_false rfl (fun h => l1 (by rw [h]))

theorem tells11 (N : Nat) (hN : 1125899906842624 ≤ N) (a b : PlainD) (ha : wfD PlainT a) (hb : wfD PlainT b) : Tells (P11 N a b) (a = b) := by
  rw [P11_eq, t11]
  obtain ⟨v3, e3, i3⟩ := tells24c25 N hN a.2.2.1 b.2.2.1 ha.2.2.1 hb.2.2.1
  obtain ⟨v4, e4, i4⟩ := tells27c28 N hN a.2.2.2.1 b.2.2.2.1 ha.2.2.2.1 hb.2.2.2.1
  obtain ⟨v2, e2, i2⟩ := tells29c30 N hN a.2.1 b.2.1 ha.2.1 hb.2.1
  obtain ⟨v1, e1, i1⟩ := tells32 N hN a.1 b.1 ha.1 hb.1
  simp only [e1, e2, e3, e4]
  obtain ⟨a1, a2, a3, a4, a5, ⟨⟩⟩ := a
  obtain ⟨b1, b2, b3, b4, b5, ⟨⟩⟩ := b
  simp only at i1 i2 i3 i4 ⊢
  cases v3
  · exact tells_false rfl (fun h => by have := i3.2 (by simp at h; exact h.2.2.1); cases this)
  cases v4
  · exact tells_false rfl (fun h => by have := i4.2 (by simp at h; exact h.2.2.2.1); cases this)
  cases v2
  · exact tells_false rfl (fun h => by have := i2.2 (by simp at h; exact h.2.1); cases this)
  cases v1
  · exact tells_false rfl (fun h => by have := i1.2 (by simp at h; exact h.1); cases this)
  refine ⟨_, rfl, ?_⟩
  rw [i1.1 rfl, i2.1 rfl, i3.1 rfl, i4.1 rfl]
  simp

theorem tells12 (N : Nat) (hN : 1125899906842624 ≤ N) (a b : PlainD) (ha : wfD PlainT a) (hb : wfD PlainT b) : Tells (P12 N a b) (a = b) := by
  rw [P12_eq, t12]
  obtain ⟨v3, e3, i3⟩ := tells35 N hN a.2.2.1 b.2.2.1 ha.2.2.1 hb.2.2.1
  obtain ⟨v4, e4, i4⟩ := tells36 N hN a.2.2.2.1 b.2.2.2.1 ha.2.2.2.1 hb.2.2.2.1
  obtain ⟨v2, e2, i2⟩ := tells34 N hN a.2.1 b.2.1 ha.2.1 hb.2.1
  obtain ⟨v1, e1, i1⟩ := tells33 N hN a.1 b.1 ha.1 hb.1
  simp only [e1, e2, e3, e4]
  obtain ⟨a1, a2, a3, a4, a5, ⟨⟩⟩ := a
  obtain ⟨b1, b2, b3, b4, b5, ⟨⟩⟩ := b
  simp only at i1 i2 i3 i4 ⊢
  cases v1
  · exact tells_false rfl (fun h => by have := i1.2 (by simp at h; exact h.1); cases this)
  cases v2
  · exact tells_false rfl (fun h => by have := i2.2 (by simp at h; exact h.2.1); cases this)
  cases v3
  · exact tells_false rfl (fun h => by have := i3.2 (by simp at h; exact h.2.2.1); cases this)
  cases v4
  · exact tells_false rfl (fun h => by have := i4.2 (by simp at h; exact h.2.2.2.1); cases this)
  rw [i1.1 rfl, i2.1 rfl, i3.1 rfl, i4.1 rfl]
  by_cases h5 : a5 = b5
  · refine tells_true ?_ (by rw [h5])
    simp [h5]
  · refine tells_false ?_ (fun h => h5 (by simp at h; exact h))
    simp only [Bool.not_true]
    rw [bne_no h5]

/-- SamePlain's law, of all plains -/
theorem P4_true (N : Nat) (hN : 1125899906842624 ≤ N) (a b : PlainD) (ha : wfD PlainT a) (hb : wfD PlainT b) : P4 N a b = some ((true, ()), ()) := by
  rw [P4_eq, t4]
  obtain ⟨r1, e1, p1, q1, k1⟩ := sz8 N hN a 1048576 ha (by omega) (by omega)
  rw [e1]
  by_cases h : r1 < 0
  · simp only [decide_eq_true h]
  simp only [decide_eq_false h]
  obtain ⟨r2, e2, p2, q2, k2⟩ := sz8 N hN b r1 hb (by omega) (by omega)
  rw [e2]
  by_cases h' : r2 < 0
  · simp only [decide_eq_true h']
  simp only [decide_eq_false h']
  have ca := copy10 N hN a (k1 (by omega))
  have cb := copy10 N hN b (k2 (by omega))
  obtain ⟨v, ev, iv⟩ := tells9 N hN a b ha hb
  obtain ⟨u, eu, iu⟩ := tells11 N hN a b ha hb
  obtain ⟨x, ex, ix⟩ := tells12 N hN a a ha ha
  obtain ⟨y, ey, iy⟩ := tells12 N hN b b hb hb
  have hx : x = true := ix.2 rfl
  have hy : y = true := iy.2 rfl
  have huv : u = v := by
    cases u <;> cases v <;> simp_all
  subst hx; subst hy; subst huv
  simp only [ca, cb]
  have ev' : P9 N (a.1, (a.2.1, (a.2.2.1, (a.2.2.2.1, a.2.2.2.2)))) (b.1, (b.2.1, (b.2.2.1, (b.2.2.2.1, b.2.2.2.2)))) = some ((u, ()), ()) := ev
  have eu' : P11 N (a.1, (a.2.1, (a.2.2.1, (a.2.2.2.1, a.2.2.2.2)))) (b.1, (b.2.1, (b.2.2.1, (b.2.2.2.1, b.2.2.2.2)))) = some ((u, ()), ()) := eu
  have ex' : P12 N (a.1, (a.2.1, (a.2.2.1, (a.2.2.2.1, a.2.2.2.2)))) (a.1, (a.2.1, (a.2.2.1, (a.2.2.2.1, a.2.2.2.2)))) = some ((true, ()), ()) := ex
  have ey' : P12 N (b.1, (b.2.1, (b.2.2.1, (b.2.2.2.1, b.2.2.2.2)))) (b.1, (b.2.1, (b.2.2.1, (b.2.2.2.1, b.2.2.2.2)))) = some ((true, ()), ()) := ey
  simp only [ev', eu', ex', ey']
  cases u <;> rfl
end Go.Proofs.Ytilhlmedhgonbaa
