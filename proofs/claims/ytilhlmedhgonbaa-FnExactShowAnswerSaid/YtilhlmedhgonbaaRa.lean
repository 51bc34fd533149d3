/- PROVED HERE: the row FnExactShowAnswerSaid as it is given, for every answer; it asks for nothing more. -/
import Derived.Test.YtilhlmedhgonbaaLa
import Derived.Test.YtilhlmedhgonbaaRows
import Derived.ProofKit
import Derived.OpenShut
import Derived.SizedLaws
namespace Go.Proofs.Ytilhlmedhgonbaa
open Go.ChangeShapes Go.WideShapes Go.ChangeAt Go.RowKit Go.TM
set_option linter.unusedVariables false
theorem own : ownKnob Try.prog.godebug = none := by kernel_rfl
theorem laidOut : laidOutB Try.prog = true := by kernel_rfl

theorem g_some {E : Env} {n : Nat} {ps : List PM} {rt : List Ty} {fn : Func} {ds : List D} {v : Tup rt × Tup (mutTys ps)} (h : runP E n ps rt fn ds = some v) : FnC.g (runFn E n ps rt fn) ds = some (encT rt v.1, encT (mutTys ps) v.2) := by
  unfold FnC.g runFn
  simp only
  rw [h]

set_option maxRecDepth 100000 in
theorem show_g (N : Nat) (hN : 64 ≤ N) : ∀ ds, WfDs [.cons (.int .i64) (.cons (.int .i64) .unit)] ds → FnC.g (c3 N) ds = some ([⟨.bool, true⟩], []) := by
  intro ds h
  cases ds with
  | nil => exact h.elim
  | cons d ds =>
    cases ds with
    | cons _ _ => exact h.2.elim
    | nil =>
      obtain ⟨⟨x, e, hx⟩, _⟩ := h
      subst e
      have h := P3_true N hN x hx.1 hx.2.1
      exact g_some h

set_option maxRecDepth 100000 in
theorem show_lifted (os : Os) (started : os.Started) (H : Type) (enc : TypeId × Value → H) :
    ReturnsInHanded {} Try.checked os 3 .any (Rows.fnExactShowAnswerSpec.pre6 enc Try.prog Try.f3 Rows.fnExactShowAnswerRow.domain false) (Rows.fnExactShowAnswerSpec.post enc Try.prog Try.f3 false true false false) := by
  refine returnsInHanded_of_change_sized (C := Try.checked) own started (by kernel_rfl) Try.func3
    (ChangeSpec.witness6 (enc := enc) (C := Try.checked) false ⟨#[], #[.agg #[.int .i64 0, .int .i64 0]], []⟩ 8 (by kernel_rfl) (by kernel_rfl) (by kernel_rfl) (by kernel_rfl)) ?_
  intro W base args ds gs before hval hW hcnd hsz _
  exact contract_law (h := (c3 1000000).h) (v3 1000000) (show_g 1000000 (by decide)) rfl rfl (fun ds hd => by match ds, hd with | [d], _ => rfl) (by kernel_rfl) rfl Try.underlying4 laidOut W base args ds gs before hval hW hsz

theorem showAnswer_holds : Rows.FnExactShowAnswerSaid :=
  OpenClaim.holds_of_wide 3 Try.f3 rfl rfl rfl rfl rfl rfl rfl ⟨rfl, rfl, rfl, rfl, rfl⟩ rfl rfl rfl rfl rfl (by kernel_rfl) Try.func3 (by kernel_rfl)
    (of_decide_eq_true (by kernel_rfl)) (by unfold Func.isWrapper; first | (rw [if_pos (by decide +kernel)]; kernel_rfl) | (rw [if_neg (by decide +kernel)]; exact ⟨rfl, rfl⟩))
    (fun os started H enc _ => show_lifted os started H enc)
#print axioms showAnswer_holds
end Go.Proofs.Ytilhlmedhgonbaa
