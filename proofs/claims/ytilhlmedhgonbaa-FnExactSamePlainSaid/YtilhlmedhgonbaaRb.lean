/- PROVED HERE: the row FnExactSamePlainSaid as it is given, for all plains; it asks for nothing more. -/
import Derived.Test.YtilhlmedhgonbaaLd
import Derived.Test.YtilhlmedhgonbaaRows
import Derived.ProofKit
import Derived.OpenShut
import Derived.SizedLaws
namespace Go.Proofs.Ytilhlmedhgonbaa
open Go.ChangeShapes Go.WideShapes Go.ChangeAt Go.RowKit Go.TM
set_option linter.unusedVariables false
namespace SameRow
theorem own : ownKnob Try.prog.godebug = none := by kernel_rfl
theorem laidOut : laidOutB Try.prog = true := by kernel_rfl

theorem g_some {E : Env} {n : Nat} {ps : List PM} {rt : List Ty} {fn : Func} {ds : List D} {v : Tup rt × Tup (mutTys ps)} (h : runP E n ps rt fn ds = some v) : FnC.g (runFn E n ps rt fn) ds = some (encT rt v.1, encT (mutTys ps) v.2) := by
  unfold FnC.g runFn
  simp only
  rw [h]

set_option maxRecDepth 100000 in
theorem same_g (N : Nat) (hN : 1125899906842624 ≤ N) : ∀ ds, WfDs [PlainT, PlainT] ds → FnC.g (c4 N) ds = some ([⟨.bool, true⟩], []) := by
  intro ds h
  cases ds with
  | nil => exact h.elim
  | cons d ds =>
    cases ds with
    | nil => exact h.2.elim
    | cons e ds =>
      cases ds with
      | cons _ _ => exact h.2.2.elim
      | nil =>
        obtain ⟨⟨x, e1, hx⟩, ⟨y, e2, hy⟩, _⟩ := h
        subst e1
        subst e2
        have h := P4_true N hN x y hx hy
        exact g_some h

set_option maxRecDepth 100000 in
theorem same_lifted (os : Os) (started : os.Started) (H : Type) (enc : TypeId × Value → H) :
    ReturnsInHanded {} Try.checked os 4 .any (Rows.fnExactSamePlainSpec.pre6 enc Try.prog Try.f4 Rows.fnExactSamePlainRow.domain false) (Rows.fnExactSamePlainSpec.post enc Try.prog Try.f4 false true false false) := by
  refine returnsInHanded_of_change_sized (C := Try.checked) own started (by kernel_rfl) Try.func4
    (ChangeSpec.witness6 (enc := enc) (C := Try.checked) false ⟨#[], #[.agg #[.slice none 0 0, .slice none 0 0, .slice none 0 0, .slice none 0 0, .int .i64 0], .agg #[.slice none 0 0, .slice none 0 0, .slice none 0 0, .slice none 0 0, .int .i64 0]], []⟩ 8 (by kernel_rfl) (by kernel_rfl) (by kernel_rfl) (by kernel_rfl)) ?_
  intro W base args ds gs before hval hW hcnd hsz _
  exact contract_law (h := (c4 1125899906842624).h) (v4 1125899906842624) (same_g 1125899906842624 (Nat.le_refl _)) rfl rfl (fun ds hd => by match ds, hd with | [d, e], _ => rfl) (by kernel_rfl) rfl Try.underlying4 laidOut W base args ds gs before hval hW hsz
end SameRow

theorem samePlain_holds : Rows.FnExactSamePlainSaid :=
  OpenClaim.holds_of_wide 4 Try.f4 rfl rfl rfl rfl rfl rfl rfl ⟨rfl, rfl, rfl, rfl, rfl⟩ rfl rfl rfl rfl rfl (by kernel_rfl) Try.func4 (by kernel_rfl)
    (of_decide_eq_true (by kernel_rfl)) (by unfold Func.isWrapper; first | (rw [if_pos (by decide +kernel)]; kernel_rfl) | (rw [if_neg (by decide +kernel)]; exact ⟨rfl, rfl⟩))
    (fun os started H enc _ => SameRow.same_lifted os started H enc)
#print axioms samePlain_holds
end Go.Proofs.Ytilhlmedhgonbaa
