/- What ShowAnswer's law and all that it calls compute, function by function, and the proof that the program's code tells just that. -/
import Derived.Test.YtilhlmedhgonbaaEnv
namespace Go.Proofs.Ytilhlmedhgonbaa
open Go.TM
set_option autoImplicit false
set_option linter.unusedVariables false
set_option maxRecDepth 100000
/-! 6: loop.example/g00109/laws.toAnswer -/
noncomputable def E6 (N : Nat) : Env := mkE tyTab [] []
noncomputable def t6 (N : Nat) (a0 : (Int) × ((Int) × (Unit))) : Option ((((Int) × ((Int) × (Unit))) × (Unit)) × (Unit)) := some (((a0.1, (a0.2.1, ())), ()), ())
noncomputable def P6 (N : Nat) (a0 : (Int) × ((Int) × (Unit))) : Option ((((Int) × ((Int) × (Unit))) × (Unit)) × (Unit)) := runP (E6 N) N [.ro (.cons (.int .i64) (.cons (.int .i64) .unit))] [(.cons (.int .i64) (.cons (.int .i64) .unit))] Try.f6 [⟨(.cons (.int .i64) (.cons (.int .i64) .unit)), a0⟩]
noncomputable def c6 (N : Nat) : FnC := runFn (E6 N) N [.ro (.cons (.int .i64) (.cons (.int .i64) .unit))] [(.cons (.int .i64) (.cons (.int .i64) .unit))] Try.f6
theorem P6_eq (N : Nat) (a0 : (Int) × ((Int) × (Unit))) : P6 N a0 = t6 N a0 := by kernel_rfl
theorem v6 (N : Nat) : Valid Try.prog 6 (c6 N) := valid_fn N Try.func6 Try.call6 rfl mixed (ty_of_tab tyTab_ok) (envOk_nil _ _ _) (by kernel_rfl)

/-! 13: loop.example/g00109/spec.Decimal -/
noncomputable def E13 (N : Nat) : Env := mkE tyTab [] [(5, ⟨[], [], [0, 3, 4], []⟩), (1000005, ⟨[], [], [3, 4], []⟩)]
noncomputable def mk13_0 (a0 : Int) (x3 : Int) (x4 : List UInt8) : St := { tmps := [(0, (.dat (.int .i64) x3)), (3, (.dat .bool (decide (a0 < (0 : Int))))), (4, (.dat .str x4))], boxes := [] }
noncomputable def mx13_0_0 (a0 : Int) (w5 : List UInt8) : St := { tmps := [(3, (.dat .bool (decide (a0 < (0 : Int))))), (4, (.dat .str w5))], boxes := [] }
noncomputable def L13_0 {ρ : Type} (N : Nat) (a0 : Int) : Nat → Int → List UInt8 → (List UInt8 → Option ρ) → Option ρ
  | 0, _, _, _ => none
  | m + 1, x3, x4, k0 => (match (x3 != (0 : Int)) with | true => (match (decide ((Int.tmod x3 (10 : Int)) < (0 : Int))) with | true => (if decide (List.length (α := UInt8) (List.map (fun n : Int => UInt8.ofNat n.toNat) ([(IntKind.u8.wrap (IntKind.i64.wrap ((48 : Int) + (IntKind.i64.wrap ((0 : Int) - (Int.tmod x3 (10 : Int)))))))] : List (Int))) + List.length (α := UInt8) x4 ≤ bnd) then (L13_0 N a0 m (IntKind.i64.wrap (Int.tdiv x3 (10 : Int))) (List.append (α := UInt8) (List.map (fun n : Int => UInt8.ofNat n.toNat) ([(IntKind.u8.wrap (IntKind.i64.wrap ((48 : Int) + (IntKind.i64.wrap ((0 : Int) - (Int.tmod x3 (10 : Int)))))))] : List (Int))) x4) k0) else none) | false => (if decide (List.length (α := UInt8) (List.map (fun n : Int => UInt8.ofNat n.toNat) ([(IntKind.u8.wrap (IntKind.i64.wrap ((48 : Int) + (Int.tmod x3 (10 : Int)))))] : List (Int))) + List.length (α := UInt8) x4 ≤ bnd) then (L13_0 N a0 m (IntKind.i64.wrap (Int.tdiv x3 (10 : Int))) (List.append (α := UInt8) (List.map (fun n : Int => UInt8.ofNat n.toNat) ([(IntKind.u8.wrap (IntKind.i64.wrap ((48 : Int) + (Int.tmod x3 (10 : Int)))))] : List (Int))) x4) k0) else none)) | false => (k0 x4))
theorem st13_0 {ρ : Type} (k : Ex → St → Option ρ) (N m : Nat) (a0 : Int) (x3 : Int) (x4 : List UInt8) : loopG ρ (E13 N) Try.f13 N 0 (m + 1) k (mk13_0 a0 x3 x4) = (match (x3 != (0 : Int)) with | true => (match (decide ((Int.tmod x3 (10 : Int)) < (0 : Int))) with | true => (if decide (List.length (α := UInt8) (List.map (fun n : Int => UInt8.ofNat n.toNat) ([(IntKind.u8.wrap (IntKind.i64.wrap ((48 : Int) + (IntKind.i64.wrap ((0 : Int) - (Int.tmod x3 (10 : Int)))))))] : List (Int))) + List.length (α := UInt8) x4 ≤ bnd) then (loopG _ (E13 N) Try.f13 N 0 m k (mk13_0 a0 (IntKind.i64.wrap (Int.tdiv x3 (10 : Int))) (List.append (α := UInt8) (List.map (fun n : Int => UInt8.ofNat n.toNat) ([(IntKind.u8.wrap (IntKind.i64.wrap ((48 : Int) + (IntKind.i64.wrap ((0 : Int) - (Int.tmod x3 (10 : Int)))))))] : List (Int))) x4))) else none) | false => (if decide (List.length (α := UInt8) (List.map (fun n : Int => UInt8.ofNat n.toNat) ([(IntKind.u8.wrap (IntKind.i64.wrap ((48 : Int) + (Int.tmod x3 (10 : Int)))))] : List (Int))) + List.length (α := UInt8) x4 ≤ bnd) then (loopG _ (E13 N) Try.f13 N 0 m k (mk13_0 a0 (IntKind.i64.wrap (Int.tdiv x3 (10 : Int))) (List.append (α := UInt8) (List.map (fun n : Int => UInt8.ofNat n.toNat) ([(IntKind.u8.wrap (IntKind.i64.wrap ((48 : Int) + (Int.tmod x3 (10 : Int)))))] : List (Int))) x4))) else none)) | false => (k (.exit 0) (mx13_0_0 a0 x4))) := by kernel_rfl
theorem lp13_0 {ρ : Type} (k : Ex → St → Option ρ) (N : Nat) (a0 : Int) : ∀ (m : Nat) (x3 : Int) (x4 : List UInt8), loopG ρ (E13 N) Try.f13 N 0 m k (mk13_0 a0 x3 x4) = L13_0 N a0 m x3 x4 (fun w5 => k (.exit 0) (mx13_0_0 a0 w5)) := by
  intro m
  induction m with
  | zero => intros; rfl
  | succ m ih =>
    intros
    rw [st13_0]
    try simp only [ih]
    first | done | rfl
theorem sg13_0_0 (N : Nat) (a0 : Int) (w6 : List UInt8) : contG (E13 N) N [.ro (.int .i64)] [.str] Try.f13 0 (.exit 0) (mx13_0_0 a0 w6) = (match (decide (a0 < (0 : Int))) with | true => (if decide (List.length (α := UInt8) ([45] : List UInt8) + List.length (α := UInt8) w6 ≤ bnd) then some (((List.append (α := UInt8) ([45] : List UInt8) w6), ()), ()) else none) | false => some ((w6, ()), ())) := by kernel_rfl
noncomputable def t13 (N : Nat) (a0 : Int) : Option (((List UInt8) × (Unit)) × (Unit)) := (match (a0 == (0 : Int)) with | true => some ((([48] : List UInt8), ()), ()) | false => (L13_0 N a0 N a0 ([] : List UInt8) (fun w11 => (match (decide (a0 < (0 : Int))) with | true => (if decide (List.length (α := UInt8) ([45] : List UInt8) + List.length (α := UInt8) w11 ≤ bnd) then some (((List.append (α := UInt8) ([45] : List UInt8) w11), ()), ()) else none) | false => some ((w11, ()), ())))))
noncomputable def P13 (N : Nat) (a0 : Int) : Option (((List UInt8) × (Unit)) × (Unit)) := runP (E13 N) N [.ro (.int .i64)] [.str] Try.f13 [⟨(.int .i64), a0⟩]
noncomputable def c13 (N : Nat) : FnC := runFn (E13 N) N [.ro (.int .i64)] [.str] Try.f13
theorem eq13 (N : Nat) (a0 : Int) : runP (E13 N) N [.ro (.int .i64)] [.str] Try.f13 [⟨(.int .i64), a0⟩] = (match (a0 == (0 : Int)) with | true => some ((([48] : List UInt8), ()), ()) | false => (loopG _ (E13 N) Try.f13 N 0 N (contG (E13 N) N [.ro (.int .i64)] [.str] Try.f13 0) (mk13_0 a0 a0 ([] : List UInt8)))) := by kernel_rfl
theorem P13_eq (N : Nat) (a0 : Int) : P13 N a0 = t13 N a0 := by
  refine Eq.trans (eq13 N a0) ?_
  try simp only [lp13_0, sg13_0_0]
  first | done | rfl
theorem v13 (N : Nat) : Valid Try.prog 13 (c13 N) := valid_fn N Try.func13 Try.call13 rfl mixed (ty_of_tab tyTab_ok) (envOk_nil _ _ _) (by kernel_rfl)

/-! 5: loop.example/g00109/spec.ShowAnswer -/
noncomputable def E5 (N : Nat) : Env := mkE tyTab [(13, [0], c13 N)] []
noncomputable def t5 (N : Nat) (a0 : (Int) × ((Int) × (Unit))) : Option (((List UInt8) × (Unit)) × (Unit)) := (match (a0.1 != (0 : Int)) with | true => (match P13 N a0.1 with | none => none | some v3 => (if decide (List.length (α := UInt8) ([102, 97, 105, 108, 32] : List UInt8) + List.length (α := UInt8) v3.1.1 ≤ bnd) then some (((List.append (α := UInt8) ([102, 97, 105, 108, 32] : List UInt8) v3.1.1), ()), ()) else none)) | false => (match (a0.2.1 != (0 : Int)) with | true => (match P13 N a0.2.1 with | none => none | some v4 => (if decide (List.length (α := UInt8) ([111, 107, 32] : List UInt8) + List.length (α := UInt8) v4.1.1 ≤ bnd) then some (((List.append (α := UInt8) ([111, 107, 32] : List UInt8) v4.1.1), ()), ()) else none)) | false => some ((([111, 107] : List UInt8), ()), ())))
noncomputable def P5 (N : Nat) (a0 : (Int) × ((Int) × (Unit))) : Option (((List UInt8) × (Unit)) × (Unit)) := runP (E5 N) N [.ro (.cons (.int .i64) (.cons (.int .i64) .unit))] [.str] Try.f5 [⟨(.cons (.int .i64) (.cons (.int .i64) .unit)), a0⟩]
noncomputable def c5 (N : Nat) : FnC := runFn (E5 N) N [.ro (.cons (.int .i64) (.cons (.int .i64) .unit))] [.str] Try.f5
theorem P5_eq (N : Nat) (a0 : (Int) × ((Int) × (Unit))) : P5 N a0 = t5 N a0 := by kernel_rfl
theorem v5 (N : Nat) : Valid Try.prog 5 (c5 N) := valid_fn N Try.func5 Try.call5 rfl mixed (ty_of_tab tyTab_ok) (envOk_cons (v13 N) (envOk_nil _ _ _)) (by kernel_rfl)

/-! 37: loop.example/g00109/impl.within -/
noncomputable def E37 (N : Nat) : Env := mkE tyTab [] []
noncomputable def t37 (N : Nat) (a0 : Int) (a1 : Int) (a2 : Int) : Option (((Bool) × (Unit)) × (Unit)) := (match (decide (a0 ≥ a1)) with | true => some (((decide (a0 ≤ a2)), ()), ()) | false => some ((false, ()), ()))
noncomputable def P37 (N : Nat) (a0 : Int) (a1 : Int) (a2 : Int) : Option (((Bool) × (Unit)) × (Unit)) := runP (E37 N) N [.ro (.int .i64), .ro (.int .i64), .ro (.int .i64)] [.bool] Try.f37 [⟨(.int .i64), a0⟩, ⟨(.int .i64), a1⟩, ⟨(.int .i64), a2⟩]
noncomputable def c37 (N : Nat) : FnC := runFn (E37 N) N [.ro (.int .i64), .ro (.int .i64), .ro (.int .i64)] [.bool] Try.f37
theorem P37_eq (N : Nat) (a0 : Int) (a1 : Int) (a2 : Int) : P37 N a0 a1 a2 = t37 N a0 a1 a2 := by kernel_rfl
theorem v37 (N : Nat) : Valid Try.prog 37 (c37 N) := valid_fn N Try.func37 Try.call37 rfl mixed (ty_of_tab tyTab_ok) (envOk_nil _ _ _) (by kernel_rfl)

/-! 14: loop.example/g00109/impl.Decimal -/
noncomputable def E14 (N : Nat) : Env := mkE tyTab [(37, [0, 0, 0], c37 N)] [(4, ⟨[], [], [0, 3, 4], []⟩), (1000004, ⟨[], [], [0, 3], []⟩)]
noncomputable def mk14_0 (a0 : Int) (x7 : List UInt8) (x8 : Int) : St := { tmps := [(0, (.dat (.int .i64) a0)), (3, (.dat .str x7)), (4, (.dat (.int .i64) x8))], boxes := [] }
noncomputable def mx14_0_0 (a0 : Int) (w9 : List UInt8) : St := { tmps := [(0, (.dat (.int .i64) a0)), (3, (.dat .str w9))], boxes := [] }
noncomputable def L14_0 {ρ : Type} (N : Nat) (a0 : Int) : Nat → List UInt8 → Int → (List UInt8 → Option ρ) → Option ρ
  | 0, _, _, _ => none
  | m + 1, x7, x8, k0 => (match (decide ((Int.tmod x8 (10 : Int)) < (0 : Int))) with | true => (if decide (List.length (α := UInt8) (List.map (fun n : Int => UInt8.ofNat n.toNat) ([(IntKind.u8.wrap (IntKind.i64.wrap ((48 : Int) + (IntKind.i64.wrap ((0 : Int) - (Int.tmod x8 (10 : Int)))))))] : List (Int))) + List.length (α := UInt8) x7 ≤ bnd) then (match P37 N x8 (-9 : Int) (9 : Int) with | none => none | some v10 => (match v10.1.1 with | true => (k0 (List.append (α := UInt8) (List.map (fun n : Int => UInt8.ofNat n.toNat) ([(IntKind.u8.wrap (IntKind.i64.wrap ((48 : Int) + (IntKind.i64.wrap ((0 : Int) - (Int.tmod x8 (10 : Int)))))))] : List (Int))) x7)) | false => (L14_0 N a0 m (List.append (α := UInt8) (List.map (fun n : Int => UInt8.ofNat n.toNat) ([(IntKind.u8.wrap (IntKind.i64.wrap ((48 : Int) + (IntKind.i64.wrap ((0 : Int) - (Int.tmod x8 (10 : Int)))))))] : List (Int))) x7) (IntKind.i64.wrap (Int.tdiv x8 (10 : Int))) k0))) else none) | false => (if decide (List.length (α := UInt8) (List.map (fun n : Int => UInt8.ofNat n.toNat) ([(IntKind.u8.wrap (IntKind.i64.wrap ((48 : Int) + (Int.tmod x8 (10 : Int)))))] : List (Int))) + List.length (α := UInt8) x7 ≤ bnd) then (match P37 N x8 (-9 : Int) (9 : Int) with | none => none | some v11 => (match v11.1.1 with | true => (k0 (List.append (α := UInt8) (List.map (fun n : Int => UInt8.ofNat n.toNat) ([(IntKind.u8.wrap (IntKind.i64.wrap ((48 : Int) + (Int.tmod x8 (10 : Int)))))] : List (Int))) x7)) | false => (L14_0 N a0 m (List.append (α := UInt8) (List.map (fun n : Int => UInt8.ofNat n.toNat) ([(IntKind.u8.wrap (IntKind.i64.wrap ((48 : Int) + (Int.tmod x8 (10 : Int)))))] : List (Int))) x7) (IntKind.i64.wrap (Int.tdiv x8 (10 : Int))) k0))) else none))
theorem st14_0 {ρ : Type} (k : Ex → St → Option ρ) (N m : Nat) (a0 : Int) (x7 : List UInt8) (x8 : Int) : loopG ρ (E14 N) Try.f14 N 0 (m + 1) k (mk14_0 a0 x7 x8) = (match (decide ((Int.tmod x8 (10 : Int)) < (0 : Int))) with | true => (if decide (List.length (α := UInt8) (List.map (fun n : Int => UInt8.ofNat n.toNat) ([(IntKind.u8.wrap (IntKind.i64.wrap ((48 : Int) + (IntKind.i64.wrap ((0 : Int) - (Int.tmod x8 (10 : Int)))))))] : List (Int))) + List.length (α := UInt8) x7 ≤ bnd) then (match P37 N x8 (-9 : Int) (9 : Int) with | none => none | some v12 => (match v12.1.1 with | true => (k (.exit 0) (mx14_0_0 a0 (List.append (α := UInt8) (List.map (fun n : Int => UInt8.ofNat n.toNat) ([(IntKind.u8.wrap (IntKind.i64.wrap ((48 : Int) + (IntKind.i64.wrap ((0 : Int) - (Int.tmod x8 (10 : Int)))))))] : List (Int))) x7))) | false => (loopG _ (E14 N) Try.f14 N 0 m k (mk14_0 a0 (List.append (α := UInt8) (List.map (fun n : Int => UInt8.ofNat n.toNat) ([(IntKind.u8.wrap (IntKind.i64.wrap ((48 : Int) + (IntKind.i64.wrap ((0 : Int) - (Int.tmod x8 (10 : Int)))))))] : List (Int))) x7) (IntKind.i64.wrap (Int.tdiv x8 (10 : Int))))))) else none) | false => (if decide (List.length (α := UInt8) (List.map (fun n : Int => UInt8.ofNat n.toNat) ([(IntKind.u8.wrap (IntKind.i64.wrap ((48 : Int) + (Int.tmod x8 (10 : Int)))))] : List (Int))) + List.length (α := UInt8) x7 ≤ bnd) then (match P37 N x8 (-9 : Int) (9 : Int) with | none => none | some v13 => (match v13.1.1 with | true => (k (.exit 0) (mx14_0_0 a0 (List.append (α := UInt8) (List.map (fun n : Int => UInt8.ofNat n.toNat) ([(IntKind.u8.wrap (IntKind.i64.wrap ((48 : Int) + (Int.tmod x8 (10 : Int)))))] : List (Int))) x7))) | false => (loopG _ (E14 N) Try.f14 N 0 m k (mk14_0 a0 (List.append (α := UInt8) (List.map (fun n : Int => UInt8.ofNat n.toNat) ([(IntKind.u8.wrap (IntKind.i64.wrap ((48 : Int) + (Int.tmod x8 (10 : Int)))))] : List (Int))) x7) (IntKind.i64.wrap (Int.tdiv x8 (10 : Int))))))) else none)) := by kernel_rfl
theorem lp14_0 {ρ : Type} (k : Ex → St → Option ρ) (N : Nat) (a0 : Int) : ∀ (m : Nat) (x7 : List UInt8) (x8 : Int), loopG ρ (E14 N) Try.f14 N 0 m k (mk14_0 a0 x7 x8) = L14_0 N a0 m x7 x8 (fun w9 => k (.exit 0) (mx14_0_0 a0 w9)) := by
  intro m
  induction m with
  | zero => intros; rfl
  | succ m ih =>
    intros
    rw [st14_0]
    try simp only [ih]
    first | done | rfl
theorem sg14_0_0 (N : Nat) (a0 : Int) (w14 : List UInt8) : contG (E14 N) N [.ro (.int .i64)] [.str] Try.f14 0 (.exit 0) (mx14_0_0 a0 w14) = (match (decide (a0 < (0 : Int))) with | true => (if decide (List.length (α := UInt8) ([45] : List UInt8) + List.length (α := UInt8) w14 ≤ bnd) then some (((List.append (α := UInt8) ([45] : List UInt8) w14), ()), ()) else none) | false => some ((w14, ()), ())) := by kernel_rfl
noncomputable def t14 (N : Nat) (a0 : Int) : Option (((List UInt8) × (Unit)) × (Unit)) := (L14_0 N a0 N ([] : List UInt8) a0 (fun w23 => (match (decide (a0 < (0 : Int))) with | true => (if decide (List.length (α := UInt8) ([45] : List UInt8) + List.length (α := UInt8) w23 ≤ bnd) then some (((List.append (α := UInt8) ([45] : List UInt8) w23), ()), ()) else none) | false => some ((w23, ()), ()))))
noncomputable def P14 (N : Nat) (a0 : Int) : Option (((List UInt8) × (Unit)) × (Unit)) := runP (E14 N) N [.ro (.int .i64)] [.str] Try.f14 [⟨(.int .i64), a0⟩]
noncomputable def c14 (N : Nat) : FnC := runFn (E14 N) N [.ro (.int .i64)] [.str] Try.f14
theorem eq14 (N : Nat) (a0 : Int) : runP (E14 N) N [.ro (.int .i64)] [.str] Try.f14 [⟨(.int .i64), a0⟩] = (loopG _ (E14 N) Try.f14 N 0 N (contG (E14 N) N [.ro (.int .i64)] [.str] Try.f14 0) (mk14_0 a0 ([] : List UInt8) a0)) := by kernel_rfl
theorem P14_eq (N : Nat) (a0 : Int) : P14 N a0 = t14 N a0 := by
  refine Eq.trans (eq14 N a0) ?_
  try simp only [lp14_0, sg14_0_0]
  first | done | rfl
theorem v14 (N : Nat) : Valid Try.prog 14 (c14 N) := valid_fn N Try.func14 Try.call14 rfl mixed (ty_of_tab tyTab_ok) (envOk_cons (v37 N) (envOk_nil _ _ _)) (by kernel_rfl)

/-! 7: loop.example/g00109/impl.ShowAnswer -/
noncomputable def E7 (N : Nat) : Env := mkE tyTab [(14, [0], c14 N)] []
noncomputable def t7 (N : Nat) (a0 : (Int) × ((Int) × (Unit))) : Option (((List UInt8) × (Unit)) × (Unit)) := (match (a0.1 != (0 : Int)) with | true => (match P14 N a0.1 with | none => none | some v3 => (if decide (List.length (α := UInt8) ([102, 97, 105, 108, 32] : List UInt8) + List.length (α := UInt8) v3.1.1 ≤ bnd) then some (((List.append (α := UInt8) ([102, 97, 105, 108, 32] : List UInt8) v3.1.1), ()), ()) else none)) | false => (match (a0.2.1 != (0 : Int)) with | true => (match P14 N a0.2.1 with | none => none | some v4 => (if decide (List.length (α := UInt8) ([111, 107, 32] : List UInt8) + List.length (α := UInt8) v4.1.1 ≤ bnd) then some (((List.append (α := UInt8) ([111, 107, 32] : List UInt8) v4.1.1), ()), ()) else none)) | false => some ((([111, 107] : List UInt8), ()), ())))
noncomputable def P7 (N : Nat) (a0 : (Int) × ((Int) × (Unit))) : Option (((List UInt8) × (Unit)) × (Unit)) := runP (E7 N) N [.ro (.cons (.int .i64) (.cons (.int .i64) .unit))] [.str] Try.f7 [⟨(.cons (.int .i64) (.cons (.int .i64) .unit)), a0⟩]
noncomputable def c7 (N : Nat) : FnC := runFn (E7 N) N [.ro (.cons (.int .i64) (.cons (.int .i64) .unit))] [.str] Try.f7
theorem P7_eq (N : Nat) (a0 : (Int) × ((Int) × (Unit))) : P7 N a0 = t7 N a0 := by kernel_rfl
theorem v7 (N : Nat) : Valid Try.prog 7 (c7 N) := valid_fn N Try.func7 Try.call7 rfl mixed (ty_of_tab tyTab_ok) (envOk_cons (v14 N) (envOk_nil _ _ _)) (by kernel_rfl)

/-! 3: loop.example/g00109/laws.FnExactShowAnswer -/
noncomputable def E3 (N : Nat) : Env := mkE tyTab [(5, [0], c5 N), (6, [0], c6 N), (7, [0], c7 N)] []
noncomputable def t3 (N : Nat) (a0 : (Int) × ((Int) × (Unit))) : Option (((Bool) × (Unit)) × (Unit)) := (match P6 N a0 with | none => none | some v5 => (match P5 N v5.1.1 with | none => none | some v6 => (match P6 N a0 with | none => none | some v7 => (match P7 N v7.1.1 with | none => none | some v8 => (match (!((v8.1.1 : List UInt8) == v6.1.1)) with | true => some ((false, ()), ()) | false => some ((true, ()), ()))))))
noncomputable def P3 (N : Nat) (a0 : (Int) × ((Int) × (Unit))) : Option (((Bool) × (Unit)) × (Unit)) := runP (E3 N) N [.ro (.cons (.int .i64) (.cons (.int .i64) .unit))] [.bool] Try.f3 [⟨(.cons (.int .i64) (.cons (.int .i64) .unit)), a0⟩]
noncomputable def c3 (N : Nat) : FnC := runFn (E3 N) N [.ro (.cons (.int .i64) (.cons (.int .i64) .unit))] [.bool] Try.f3
theorem P3_eq (N : Nat) (a0 : (Int) × ((Int) × (Unit))) : P3 N a0 = t3 N a0 := by kernel_rfl
theorem v3 (N : Nat) : Valid Try.prog 3 (c3 N) := valid_fn N Try.func3 Try.call3 rfl mixed (ty_of_tab tyTab_ok) (envOk_cons (v5 N) (envOk_cons (v6 N) (envOk_cons (v7 N) (envOk_nil _ _ _)))) (by kernel_rfl)
end Go.Proofs.Ytilhlmedhgonbaa
