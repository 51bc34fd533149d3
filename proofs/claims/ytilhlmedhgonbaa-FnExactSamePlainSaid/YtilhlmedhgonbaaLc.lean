/- SamePlain's law, second part: what the law copies, how much it lets in, and the law itself over the pure functions. -/
import Derived.Test.YtilhlmedhgonbaaLb
namespace Go.Proofs.Ytilhlmedhgonbaa
open Go.TM
set_option autoImplicit false
set_option linter.unusedVariables false
set_option linter.unusedSimpArgs false
set_option maxRecDepth 100000
abbrev PlainT : Ty := (.cons (.slice .bool) (.cons (.slice (.slice (.cons (.int .i64) (.cons (.int .i64) (.cons .bool .unit))))) (.cons (.slice (.cons (.int .i64) (.cons (.int .i64) (.cons (.slice (.int .i64)) .unit)))) (.cons (.slice (.cons (.int .i64) (.cons (.slice (.int .i64)) .unit))) (.cons (.int .i64) .unit)))))
abbrev PlainD : Type := List Bool × (List (List (Int × (Int × (Bool × Unit)))) × (List (Int × (Int × (List Int × Unit))) × (List (Int × (List Int × Unit)) × (Int × Unit))))

theorem copy20 (N : Nat) (hN : 1125899906842624 ≤ N) (a : List (Bool)) (ha : smD (.slice .bool) a) : P20 N a = some ((a, ()), ()) := by
  rw [P20_eq, t20]
  have hlen : a.length ≤ 1048576 := ha.1
  show (if Nat.beq a.length a.length && Nat.ble a.length bnd && true then L20_0 N a N (List.replicate a.length false) (0 : Int) _ else none) = _
  rw [if_pos (by simp [bnd]; omega)]
  refine copy_loop (fun m out i => L20_0 N a m out i (fun w => some ((w, ()), ()))) (fun w => some ((w, ()), ())) ?_ ?_ N 0 (List.replicate a.length false) (by omega) (Nat.zero_le _) (by simp) (by simp)
  · intro m out
    show L20_0 N a (m + 1) out _ _ = _
    rw [L20_0]
    have hlt : decide (((a.length : Nat) : Int) < ((a.length : Nat) : Int)) = false := by simp
    rw [hlt]
  · intro m out i x ho hi hx
    show L20_0 N a (m + 1) out _ _ = L20_0 N a m _ _ _
    have hlt : decide (((i : Nat) : Int) < ((a.length : Nat) : Int)) = true := by simpa using hi
    have hw := wrap_succ (n := i) (by omega)
    have hg : geN out i = some (out[i]'(by omega)) := List.getElem?_eq_getElem _
    rw [L20_0, hlt]
    simp only [geti_nat, hx, hw]
    rw [idx_nat (by omega : i < out.length), hg]

theorem copy49 (N : Nat) (hN : 1125899906842624 ≤ N) (a : List (Int)) (ha : smD (.slice (.int .i64)) a) : P49 N a = some ((a, ()), ()) := by
  rw [P49_eq, t49]
  have hlen : a.length ≤ 1048576 := ha.1
  show (if Nat.beq a.length a.length && Nat.ble a.length bnd && true then L49_0 N a N (List.replicate a.length (0 : Int)) (0 : Int) _ else none) = _
  rw [if_pos (by simp [bnd]; omega)]
  refine copy_loop (fun m out i => L49_0 N a m out i (fun w => some ((w, ()), ()))) (fun w => some ((w, ()), ())) ?_ ?_ N 0 (List.replicate a.length (0 : Int)) (by omega) (Nat.zero_le _) (by simp) (by simp)
  · intro m out
    show L49_0 N a (m + 1) out _ _ = _
    rw [L49_0]
    have hlt : decide (((a.length : Nat) : Int) < ((a.length : Nat) : Int)) = false := by simp
    rw [hlt]
  · intro m out i x ho hi hx
    show L49_0 N a (m + 1) out _ _ = L49_0 N a m _ _ _
    have hlt : decide (((i : Nat) : Int) < ((a.length : Nat) : Int)) = true := by simpa using hi
    have hw := wrap_succ (n := i) (by omega)
    have hg : geN out i = some (out[i]'(by omega)) := List.getElem?_eq_getElem _
    rw [L49_0, hlt]
    simp only [geti_nat, hx, hw]
    rw [idx_nat (by omega : i < out.length), hg]

theorem copy48 (N : Nat) (hN : 1125899906842624 ≤ N) (a : Int × (Int × (Bool × Unit))) (ha : smD (.cons (.int .i64) (.cons (.int .i64) (.cons .bool .unit))) a) : P48 N a = some ((a, ()), ()) := by
  rw [P48_eq, t48]

theorem copy42 (N : Nat) (hN : 1125899906842624 ≤ N) (a : Int × (Int × (List Int × Unit))) (ha : smD (.cons (.int .i64) (.cons (.int .i64) (.cons (.slice (.int .i64)) .unit))) a) : P42 N a = some ((a, ()), ()) := by
  rw [P42_eq, t42]
  rw [copy49 N hN a.2.2.1 ha.2.2.1]

theorem copy43 (N : Nat) (hN : 1125899906842624 ≤ N) (a : Int × (List Int × Unit)) (ha : smD (.cons (.int .i64) (.cons (.slice (.int .i64)) .unit)) a) : P43 N a = some ((a, ()), ()) := by
  rw [P43_eq, t43]
  rw [copy49 N hN a.2.1 ha.2.1]

theorem copy41 (N : Nat) (hN : 1125899906842624 ≤ N) (a : List (Int × (Int × (Bool × Unit)))) (ha : smD (.slice (.cons (.int .i64) (.cons (.int .i64) (.cons .bool .unit)))) a) : P41 N a = some ((a, ()), ()) := by
  rw [P41_eq, t41]
  have hlen : a.length ≤ 1048576 := ha.1
  show (if Nat.beq a.length a.length && Nat.ble a.length bnd && true then L41_0 N a N (List.replicate a.length ((0 : Int), ((0 : Int), (false, ())))) (0 : Int) _ else none) = _
  rw [if_pos (by simp [bnd]; omega)]
  refine copy_loop (fun m out i => L41_0 N a m out i (fun w => some ((w, ()), ()))) (fun w => some ((w, ()), ())) ?_ ?_ N 0 (List.replicate a.length ((0 : Int), ((0 : Int), (false, ())))) (by omega) (Nat.zero_le _) (by simp) (by simp)
  · intro m out
    show L41_0 N a (m + 1) out _ _ = _
    rw [L41_0]
    have hlt : decide (((a.length : Nat) : Int) < ((a.length : Nat) : Int)) = false := by simp
    rw [hlt]
  · intro m out i x ho hi hx
    show L41_0 N a (m + 1) out _ _ = L41_0 N a m _ _ _
    have hlt : decide (((i : Nat) : Int) < ((a.length : Nat) : Int)) = true := by simpa using hi
    have hw := wrap_succ (n := i) (by omega)
    have hg : geN out i = some (out[i]'(by omega)) := List.getElem?_eq_getElem _
    rw [L41_0, hlt]
    simp only [geti_nat, hx, hw, copy48 N hN x (ha.2 x (List.mem_of_getElem? hx))]
    rw [idx_nat (by omega : i < out.length), hg]

theorem copy21 (N : Nat) (hN : 1125899906842624 ≤ N) (a : List (List (Int × (Int × (Bool × Unit))))) (ha : smD (.slice (.slice (.cons (.int .i64) (.cons (.int .i64) (.cons .bool .unit))))) a) : P21 N a = some ((a, ()), ()) := by
  rw [P21_eq, t21]
  have hlen : a.length ≤ 1048576 := ha.1
  show (if Nat.beq a.length a.length && Nat.ble a.length bnd && true then L21_0 N a N (List.replicate a.length ([] : List (Int × (Int × (Bool × Unit))))) (0 : Int) _ else none) = _
  rw [if_pos (by simp [bnd]; omega)]
  refine copy_loop (fun m out i => L21_0 N a m out i (fun w => some ((w, ()), ()))) (fun w => some ((w, ()), ())) ?_ ?_ N 0 (List.replicate a.length ([] : List (Int × (Int × (Bool × Unit))))) (by omega) (Nat.zero_le _) (by simp) (by simp)
  · intro m out
    show L21_0 N a (m + 1) out _ _ = _
    rw [L21_0]
    have hlt : decide (((a.length : Nat) : Int) < ((a.length : Nat) : Int)) = false := by simp
    rw [hlt]
  · intro m out i x ho hi hx
    show L21_0 N a (m + 1) out _ _ = L21_0 N a m _ _ _
    have hlt : decide (((i : Nat) : Int) < ((a.length : Nat) : Int)) = true := by simpa using hi
    have hw := wrap_succ (n := i) (by omega)
    have hg : geN out i = some (out[i]'(by omega)) := List.getElem?_eq_getElem _
    rw [L21_0, hlt]
    simp only [geti_nat, hx, hw, copy41 N hN x (ha.2 x (List.mem_of_getElem? hx))]
    rw [idx_nat (by omega : i < out.length), hg]

theorem copy22 (N : Nat) (hN : 1125899906842624 ≤ N) (a : List (Int × (Int × (List Int × Unit)))) (ha : smD (.slice (.cons (.int .i64) (.cons (.int .i64) (.cons (.slice (.int .i64)) .unit)))) a) : P22 N a = some ((a, ()), ()) := by
  rw [P22_eq, t22]
  have hlen : a.length ≤ 1048576 := ha.1
  show (if Nat.beq a.length a.length && Nat.ble a.length bnd && true then L22_0 N a N (List.replicate a.length ((0 : Int), ((0 : Int), (([] : List Int), ())))) (0 : Int) _ else none) = _
  rw [if_pos (by simp [bnd]; omega)]
  refine copy_loop (fun m out i => L22_0 N a m out i (fun w => some ((w, ()), ()))) (fun w => some ((w, ()), ())) ?_ ?_ N 0 (List.replicate a.length ((0 : Int), ((0 : Int), (([] : List Int), ())))) (by omega) (Nat.zero_le _) (by simp) (by simp)
  · intro m out
    show L22_0 N a (m + 1) out _ _ = _
    rw [L22_0]
    have hlt : decide (((a.length : Nat) : Int) < ((a.length : Nat) : Int)) = false := by simp
    rw [hlt]
  · intro m out i x ho hi hx
    show L22_0 N a (m + 1) out _ _ = L22_0 N a m _ _ _
    have hlt : decide (((i : Nat) : Int) < ((a.length : Nat) : Int)) = true := by simpa using hi
    have hw := wrap_succ (n := i) (by omega)
    have hg : geN out i = some (out[i]'(by omega)) := List.getElem?_eq_getElem _
    rw [L22_0, hlt]
    simp only [geti_nat, hx, hw, copy42 N hN x (ha.2 x (List.mem_of_getElem? hx))]
    rw [idx_nat (by omega : i < out.length), hg]

theorem copy23 (N : Nat) (hN : 1125899906842624 ≤ N) (a : List (Int × (List Int × Unit))) (ha : smD (.slice (.cons (.int .i64) (.cons (.slice (.int .i64)) .unit))) a) : P23 N a = some ((a, ()), ()) := by
  rw [P23_eq, t23]
  have hlen : a.length ≤ 1048576 := ha.1
  show (if Nat.beq a.length a.length && Nat.ble a.length bnd && true then L23_0 N a N (List.replicate a.length ((0 : Int), (([] : List Int), ()))) (0 : Int) _ else none) = _
  rw [if_pos (by simp [bnd]; omega)]
  refine copy_loop (fun m out i => L23_0 N a m out i (fun w => some ((w, ()), ()))) (fun w => some ((w, ()), ())) ?_ ?_ N 0 (List.replicate a.length ((0 : Int), (([] : List Int), ()))) (by omega) (Nat.zero_le _) (by simp) (by simp)
  · intro m out
    show L23_0 N a (m + 1) out _ _ = _
    rw [L23_0]
    have hlt : decide (((a.length : Nat) : Int) < ((a.length : Nat) : Int)) = false := by simp
    rw [hlt]
  · intro m out i x ho hi hx
    show L23_0 N a (m + 1) out _ _ = L23_0 N a m _ _ _
    have hlt : decide (((i : Nat) : Int) < ((a.length : Nat) : Int)) = true := by simpa using hi
    have hw := wrap_succ (n := i) (by omega)
    have hg : geN out i = some (out[i]'(by omega)) := List.getElem?_eq_getElem _
    rw [L23_0, hlt]
    simp only [geti_nat, hx, hw, copy43 N hN x (ha.2 x (List.mem_of_getElem? hx))]
    rw [idx_nat (by omega : i < out.length), hg]

theorem copy10 (N : Nat) (hN : 1125899906842624 ≤ N) (a : PlainD) (ha : smD PlainT a) : P10 N a = some ((a, ()), ()) := by
  rw [P10_eq, t10, copy20 N hN a.1 ha.1, copy21 N hN a.2.1 ha.2.1, copy22 N hN a.2.2.1 ha.2.2.1, copy23 N hN a.2.2.2.1 ha.2.2.2.1]

theorem sz15 (N : Nat) (hN : 1125899906842624 ≤ N) (a : List (Bool)) (n : Int) (ha : wfD (.slice .bool) a) (h0 : 0 ≤ n) (h1 : n ≤ 1048576) : Sized (P15 N a n) n (smD (.slice .bool) a) := by
  have hlen : a.length ≤ reachBytes := ha.1
  have hR : reachBytes = 140737488351232 := rfl
  rw [P15_eq, t15, wrap64 (x := n - ((a.length : Nat) : Int)) (by omega) (by omega)]
  by_cases h : n - ((a.length : Nat) : Int) < 0
  · refine ⟨-1, ?_, by omega, by omega, fun h => by omega⟩
    rw [decide_eq_true h]
  · refine ⟨n - ((a.length : Nat) : Int), ?_, by omega, by omega, fun h => ⟨(show a.length ≤ 1048576 by omega), fun x hx => trivial⟩⟩
    rw [decide_eq_false h]

theorem sz38 (N : Nat) (hN : 1125899906842624 ≤ N) (a : List (Int × (Int × (Bool × Unit)))) (n : Int) (ha : wfD (.slice (.cons (.int .i64) (.cons (.int .i64) (.cons .bool .unit)))) a) (h0 : 0 ≤ n) (h1 : n ≤ 1048576) : Sized (P38 N a n) n (smD (.slice (.cons (.int .i64) (.cons (.int .i64) (.cons .bool .unit)))) a) := by
  have hlen : a.length ≤ reachBytes := ha.1
  have hR : reachBytes = 140737488351232 := rfl
  rw [P38_eq, t38, wrap64 (x := n - ((a.length : Nat) : Int)) (by omega) (by omega)]
  by_cases h : n - ((a.length : Nat) : Int) < 0
  · refine ⟨-1, ?_, by omega, by omega, fun h => by omega⟩
    rw [decide_eq_true h]
  · refine ⟨n - ((a.length : Nat) : Int), ?_, by omega, by omega, fun h => ⟨(show a.length ≤ 1048576 by omega), fun x hx => ⟨trivial, trivial, trivial, trivial⟩⟩⟩
    rw [decide_eq_false h]

theorem sz47 (N : Nat) (hN : 1125899906842624 ≤ N) (a : List (Int)) (n : Int) (ha : wfD (.slice (.int .i64)) a) (h0 : 0 ≤ n) (h1 : n ≤ 1048576) : Sized (P47 N a n) n (smD (.slice (.int .i64)) a) := by
  have hlen : a.length ≤ reachBytes := ha.1
  have hR : reachBytes = 140737488351232 := rfl
  rw [P47_eq, t47, wrap64 (x := n - ((a.length : Nat) : Int)) (by omega) (by omega)]
  by_cases h : n - ((a.length : Nat) : Int) < 0
  · refine ⟨-1, ?_, by omega, by omega, fun h => by omega⟩
    rw [decide_eq_true h]
  · refine ⟨n - ((a.length : Nat) : Int), ?_, by omega, by omega, fun h => ⟨(show a.length ≤ 1048576 by omega), fun x hx => trivial⟩⟩
    rw [decide_eq_false h]

theorem sz39 (N : Nat) (hN : 1125899906842624 ≤ N) (a : Int × (Int × (List Int × Unit))) (n : Int) (ha : wfD (.cons (.int .i64) (.cons (.int .i64) (.cons (.slice (.int .i64)) .unit))) a) (h0 : 0 ≤ n) (h1 : n ≤ 1048576) : Sized (P39 N a n) n (smD (.cons (.int .i64) (.cons (.int .i64) (.cons (.slice (.int .i64)) .unit))) a) := by
  obtain ⟨r, hr, hr1, hr2, hok⟩ := sz47 N hN a.2.2.1 n ha.2.2.1 h0 h1
  rw [P39_eq, t39, hr]
  by_cases h : r < 0
  · refine ⟨-1, ?_, by omega, by omega, fun h => by omega⟩
    simp only [decide_eq_true h]
  · refine ⟨r, ?_, by omega, by omega, fun h => ⟨trivial, trivial, hok h, trivial⟩⟩
    simp only [decide_eq_false h]

theorem sz40 (N : Nat) (hN : 1125899906842624 ≤ N) (a : Int × (List Int × Unit)) (n : Int) (ha : wfD (.cons (.int .i64) (.cons (.slice (.int .i64)) .unit)) a) (h0 : 0 ≤ n) (h1 : n ≤ 1048576) : Sized (P40 N a n) n (smD (.cons (.int .i64) (.cons (.slice (.int .i64)) .unit)) a) := by
  obtain ⟨r, hr, hr1, hr2, hok⟩ := sz47 N hN a.2.1 n ha.2.1 h0 h1
  rw [P40_eq, t40, hr]
  by_cases h : r < 0
  · refine ⟨-1, ?_, by omega, by omega, fun h => by omega⟩
    simp only [decide_eq_true h]
  · refine ⟨r, ?_, by omega, by omega, fun h => ⟨trivial, hok h, trivial⟩⟩
    simp only [decide_eq_false h]

theorem sz16 (N : Nat) (hN : 1125899906842624 ≤ N) (a : List (List (Int × (Int × (Bool × Unit))))) (n : Int) (ha : wfD (.slice (.slice (.cons (.int .i64) (.cons (.int .i64) (.cons .bool .unit))))) a) (h0 : 0 ≤ n) (h1 : n ≤ 1048576) : Sized (P16 N a n) n (smD (.slice (.slice (.cons (.int .i64) (.cons (.int .i64) (.cons .bool .unit))))) a) := by
  have hlen : a.length ≤ reachBytes := ha.1
  have hR : reachBytes = 140737488351232 := rfl
  rw [P16_eq, t16, wrap64 (x := n - ((a.length : Nat) : Int)) (by omega) (by omega)]
  by_cases h : n - ((a.length : Nat) : Int) < 0
  · refine ⟨-1, ?_, by omega, by omega, fun h => by omega⟩
    rw [decide_eq_true h]
  · rw [decide_eq_false h]
    simp only []
    have hloop := sz_loop (a := a) (fun m n i => L16_0 N a m n i (fun _ => some ((-1, ()), ())) (fun w => some ((w, ()), ()))) (smD (.slice (.cons (.int .i64) (.cons (.int .i64) (.cons .bool .unit))))) (fun _ => some (((-1 : Int), ()), ())) (fun w => some ((w, ()), ())) ?_ ?_ N (n - ((a.length : Nat) : Int)) 0 (by omega) (Nat.zero_le _) (by omega) (by omega)
    · rcases hloop with ⟨r, q1, q2⟩ | ⟨r, q1, q2, q3, q4⟩
      · exact ⟨-1, q1, by omega, by omega, fun h => by omega⟩
      · exact ⟨r, q1, by omega, by omega, fun _ => ⟨(show a.length ≤ 1048576 by omega), fun x hx => q4 x (by rw [List.drop_zero]; exact hx)⟩⟩
    · intro m n
      show L16_0 N a (m + 1) _ _ _ _ = _
      rw [L16_0]
      have hlt : decide (((a.length : Nat) : Int) < ((a.length : Nat) : Int)) = false := by simp
      rw [hlt]
    · intro m n i x hi hx hn hn2
      obtain ⟨r, hr, hr1, hr2, hok⟩ := sz38 N hN x n (ha.2 x (List.mem_of_getElem? hx)) hn hn2
      have hlt : decide (((i : Nat) : Int) < ((a.length : Nat) : Int)) = true := by simpa using hi
      have hw := wrap_succ (n := i) (by omega)
      refine ⟨r, hr2, fun h => ?_, fun h => ⟨?_, hok h⟩⟩
      · show L16_0 N a (m + 1) _ _ _ _ = _
        rw [L16_0, hlt]
        simp only [geti_nat, hx, hr, hw, decide_eq_true h]
      · show L16_0 N a (m + 1) _ _ _ _ = L16_0 N a m _ _ _ _
        have h : ¬ r < 0 := by omega
        rw [L16_0, hlt]
        simp only [geti_nat, hx, hr, hw, decide_eq_false h]

theorem sz17 (N : Nat) (hN : 1125899906842624 ≤ N) (a : List (Int × (Int × (List Int × Unit)))) (n : Int) (ha : wfD (.slice (.cons (.int .i64) (.cons (.int .i64) (.cons (.slice (.int .i64)) .unit)))) a) (h0 : 0 ≤ n) (h1 : n ≤ 1048576) : Sized (P17 N a n) n (smD (.slice (.cons (.int .i64) (.cons (.int .i64) (.cons (.slice (.int .i64)) .unit)))) a) := by
  have hlen : a.length ≤ reachBytes := ha.1
  have hR : reachBytes = 140737488351232 := rfl
  rw [P17_eq, t17, wrap64 (x := n - ((a.length : Nat) : Int)) (by omega) (by omega)]
  by_cases h : n - ((a.length : Nat) : Int) < 0
  · refine ⟨-1, ?_, by omega, by omega, fun h => by omega⟩
    rw [decide_eq_true h]
  · rw [decide_eq_false h]
    simp only []
    have hloop := sz_loop (a := a) (fun m n i => L17_0 N a m n i (fun _ => some ((-1, ()), ())) (fun w => some ((w, ()), ()))) (smD (.cons (.int .i64) (.cons (.int .i64) (.cons (.slice (.int .i64)) .unit)))) (fun _ => some (((-1 : Int), ()), ())) (fun w => some ((w, ()), ())) ?_ ?_ N (n - ((a.length : Nat) : Int)) 0 (by omega) (Nat.zero_le _) (by omega) (by omega)
    · rcases hloop with ⟨r, q1, q2⟩ | ⟨r, q1, q2, q3, q4⟩
      · exact ⟨-1, q1, by omega, by omega, fun h => by omega⟩
      · exact ⟨r, q1, by omega, by omega, fun _ => ⟨(show a.length ≤ 1048576 by omega), fun x hx => q4 x (by rw [List.drop_zero]; exact hx)⟩⟩
    · intro m n
      show L17_0 N a (m + 1) _ _ _ _ = _
      rw [L17_0]
      have hlt : decide (((a.length : Nat) : Int) < ((a.length : Nat) : Int)) = false := by simp
      rw [hlt]
    · intro m n i x hi hx hn hn2
      obtain ⟨r, hr, hr1, hr2, hok⟩ := sz39 N hN x n (ha.2 x (List.mem_of_getElem? hx)) hn hn2
      have hlt : decide (((i : Nat) : Int) < ((a.length : Nat) : Int)) = true := by simpa using hi
      have hw := wrap_succ (n := i) (by omega)
      refine ⟨r, hr2, fun h => ?_, fun h => ⟨?_, hok h⟩⟩
      · show L17_0 N a (m + 1) _ _ _ _ = _
        rw [L17_0, hlt]
        simp only [geti_nat, hx, hr, hw, decide_eq_true h]
      · show L17_0 N a (m + 1) _ _ _ _ = L17_0 N a m _ _ _ _
        have h : ¬ r < 0 := by omega
        rw [L17_0, hlt]
        simp only [geti_nat, hx, hr, hw, decide_eq_false h]

theorem sz18 (N : Nat) (hN : 1125899906842624 ≤ N) (a : List (Int × (List Int × Unit))) (n : Int) (ha : wfD (.slice (.cons (.int .i64) (.cons (.slice (.int .i64)) .unit))) a) (h0 : 0 ≤ n) (h1 : n ≤ 1048576) : Sized (P18 N a n) n (smD (.slice (.cons (.int .i64) (.cons (.slice (.int .i64)) .unit))) a) := by
  have hlen : a.length ≤ reachBytes := ha.1
  have hR : reachBytes = 140737488351232 := rfl
  rw [P18_eq, t18, wrap64 (x := n - ((a.length : Nat) : Int)) (by omega) (by omega)]
  by_cases h : n - ((a.length : Nat) : Int) < 0
  · refine ⟨-1, ?_, by omega, by omega, fun h => by omega⟩
    rw [decide_eq_true h]
  · rw [decide_eq_false h]
    simp only []
    have hloop := sz_loop (a := a) (fun m n i => L18_0 N a m n i (fun _ => some ((-1, ()), ())) (fun w => some ((w, ()), ()))) (smD (.cons (.int .i64) (.cons (.slice (.int .i64)) .unit))) (fun _ => some (((-1 : Int), ()), ())) (fun w => some ((w, ()), ())) ?_ ?_ N (n - ((a.length : Nat) : Int)) 0 (by omega) (Nat.zero_le _) (by omega) (by omega)
    · rcases hloop with ⟨r, q1, q2⟩ | ⟨r, q1, q2, q3, q4⟩
      · exact ⟨-1, q1, by omega, by omega, fun h => by omega⟩
      · exact ⟨r, q1, by omega, by omega, fun _ => ⟨(show a.length ≤ 1048576 by omega), fun x hx => q4 x (by rw [List.drop_zero]; exact hx)⟩⟩
    · intro m n
      show L18_0 N a (m + 1) _ _ _ _ = _
      rw [L18_0]
      have hlt : decide (((a.length : Nat) : Int) < ((a.length : Nat) : Int)) = false := by simp
      rw [hlt]
    · intro m n i x hi hx hn hn2
      obtain ⟨r, hr, hr1, hr2, hok⟩ := sz40 N hN x n (ha.2 x (List.mem_of_getElem? hx)) hn hn2
      have hlt : decide (((i : Nat) : Int) < ((a.length : Nat) : Int)) = true := by simpa using hi
      have hw := wrap_succ (n := i) (by omega)
      refine ⟨r, hr2, fun h => ?_, fun h => ⟨?_, hok h⟩⟩
      · show L18_0 N a (m + 1) _ _ _ _ = _
        rw [L18_0, hlt]
        simp only [geti_nat, hx, hr, hw, decide_eq_true h]
      · show L18_0 N a (m + 1) _ _ _ _ = L18_0 N a m _ _ _ _
        have h : ¬ r < 0 := by omega
        rw [L18_0, hlt]
        simp only [geti_nat, hx, hr, hw, decide_eq_false h]

theorem sz8 (N : Nat) (hN : 1125899906842624 ≤ N) (a : PlainD) (n : Int) (ha : wfD PlainT a) (h0 : 0 ≤ n) (h1 : n ≤ 1048576) : Sized (P8 N a n) n (smD PlainT a) := by
  rw [P8_eq, t8]
  obtain ⟨r1, e1, p1, q1, k1⟩ := sz15 N hN a.1 n ha.1 h0 h1
  rw [e1]
  by_cases h : r1 < 0
  · refine ⟨-1, ?_, by omega, by omega, fun h => by omega⟩
    simp only [decide_eq_true h]
  simp only [decide_eq_false h]
  obtain ⟨r2, e2, p2, q2, k2⟩ := sz16 N hN a.2.1 r1 ha.2.1 (by omega) (by omega)
  rw [e2]
  by_cases h' : r2 < 0
  · refine ⟨-1, ?_, by omega, by omega, fun h => by omega⟩
    simp only [decide_eq_true h']
  simp only [decide_eq_false h']
  obtain ⟨r3, e3, p3, q3, k3⟩ := sz17 N hN a.2.2.1 r2 ha.2.2.1 (by omega) (by omega)
  rw [e3]
  by_cases h'' : r3 < 0
  · refine ⟨-1, ?_, by omega, by omega, fun h => by omega⟩
    simp only [decide_eq_true h'']
  simp only [decide_eq_false h'']
  obtain ⟨r4, e4, p4, q4, k4⟩ := sz18 N hN a.2.2.2.1 r3 ha.2.2.2.1 (by omega) (by omega)
  rw [e4]
  by_cases h4 : r4 < 0
  · refine ⟨-1, ?_, by omega, by omega, fun h => by omega⟩
    simp only [decide_eq_true h4]
  refine ⟨r4, ?_, by omega, by omega, fun _ => ⟨k1 (by omega), k2 (by omega), k3 (by omega), k4 (by omega), trivial, trivial⟩⟩
  simp only [decide_eq_false h4]
end Go.Proofs.Ytilhlmedhgonbaa
