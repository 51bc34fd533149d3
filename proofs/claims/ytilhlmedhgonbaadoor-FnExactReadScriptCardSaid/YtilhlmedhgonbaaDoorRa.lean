/- PROVED HERE: the tied card of FnExactReadScript as it is given, for all texts; what it lists (two of Go's own tables, laid as the program's text lays them) is looked at by no run. -/
import Derived.Test.YtilhlmedhgonbaaDoorLn
import Derived.Test.YtilhlmedhgonbaaDoorRows
import Derived.Test.YtilhlmedhgonbaaDoorCards
import Derived.Test.YtilhlmedhgonbaaDoorTie
import Derived.ProofKit
import Derived.OpenShut
import Derived.SizedLaws
import Derived.LaidMore
import Derived.Lay
import Derived.SevenTiedAt
import Derived.Stop.Joined
namespace Go.Proofs.YtilhlmedhgonbaaDoor
open Go.ChangeShapes Go.WideShapes Go.ChangeAt Go.RowKit Go.TM
set_option linter.unusedVariables false
theorem own : ownKnob Tryd.prog.godebug = none := by kernel_rfl
theorem laidOut : laidOutB Tryd.prog = true := by kernel_rfl

theorem g_some {E : Env} {n : Nat} {ps : List PM} {rt : List Ty} {fn : Func} {ds : List D} {v : Tup rt × Tup (mutTys ps)} (h : runP E n ps rt fn ds = some v) : FnC.g (runFn E n ps rt fn) ds = some (encT rt v.1, encT (mutTys ps) v.2) := by
  unfold FnC.g runFn
  simp only
  rw [h]

set_option maxRecDepth 100000 in
theorem read_g (N : Nat) (hN : 1125899906842624 ≤ N) : ∀ ds, WfDs [.str] ds → FnC.g (c3 N) ds = some ([⟨.bool, true⟩], []) := by
  intro ds h
  cases ds with
  | nil => exact h.elim
  | cons d ds =>
    cases ds with
    | cons _ _ => exact h.2.elim
    | nil =>
      obtain ⟨⟨x, e, hx⟩, _⟩ := h
      subst e
      have h := holds3 N hN x
      exact g_some h

abbrev lds : List (String × DataW Unit) := Rows.fnExactReadScriptRow.laid

set_option maxRecDepth 100000 in
theorem read_lifted (os : Os) (started : os.Started) (H : Type) (enc : TypeId × Value → H) :
    ReturnsInHanded {} Tryd.checked os 3 .any (fun w args => (Rows.fnExactReadScriptSpec.pre enc Tryd.prog Tryd.f3 Rows.fnExactReadScriptRow.domain false w args ∧ laidMetH Tryd.prog lds w) ∧ sizedMet enc Tryd.prog Tryd.f3 (OpenSpec.ofChange Rows.fnExactReadScriptSpec) false w args)
      (Rows.fnExactReadScriptSpec.post enc Tryd.prog Tryd.f3 false true false false) := by
  refine returnsInHanded_of_change_and (C := Tryd.checked) (X := fun w _ => laidMetH Tryd.prog lds w) (fun _ _ _ hh h => h.of_heap hh) own started (by kernel_rfl) Tryd.func3
    (ChangeSpec.witness_shaped (enc := enc) (C := Tryd.checked) (os := os) (X := fun w _ => laidMetH Tryd.prog lds w) false (World.laidAll Tryd.prog os lds) #[.string ⟨#[]⟩] 8 (World.laidAll_os _ _ _)
      (World.shaped_of_ZipB (by kernel_rfl) (by kernel_rfl)) (by kernel_rfl) (by kernel_rfl) (by kernel_rfl)
      (by rw [MakeChecks.laidMetH_plain _ _ _ (by kernel_rfl)]; exact laidMet_laidAll _ (by kernel_rfl) (by kernel_rfl))) ?_
  intro W base args ds gs before hval hW hcnd hsz _ _
  exact contract_law (h := (c3 1125899906842624).h) (v3 1125899906842624) Tryd.call3 (read_g 1125899906842624 (Nat.le_refl _)) rfl rfl (fun ds hd => by match ds, hd with | [d], _ => rfl) (by kernel_rfl) rfl Tryd.underlying4 laidOut W base args ds gs before hval hW hsz

theorem readScript_row : Rows.FnExactReadScriptSaid :=
  OpenClaim.holds_of_wide 3 Tryd.f3 rfl rfl rfl rfl rfl rfl rfl ⟨rfl, rfl, rfl, rfl, rfl⟩ rfl rfl rfl rfl rfl (by kernel_rfl) Tryd.func3 (by kernel_rfl)
    (of_decide_eq_true (by kernel_rfl)) (by unfold Func.isWrapper; first | (rw [if_pos (by decide +kernel)]; kernel_rfl) | (rw [if_neg (by decide +kernel)]; exact ⟨rfl, rfl⟩))
    (fun os started H enc _ => read_lifted os started H enc)

theorem readScript_holds : Rows.FnExactReadScriptCardSaid :=
  Claim7.holds_tied_plain_at .later [] [.data, .pinned] true (true, "2afcae142acfa26293a4c71f9963ee1801dc81aec33d96848ab95911392fade7") false readScript_row (fun _ h => by cases h) (by kernel_rfl) (fun _ h => by cases h) fnExactReadScript_row_tie rfl ⟨rfl, rfl⟩ (by kernel_rfl) rfl
    (fun f fn hf hfn => by
      obtain rfl : f = 3 := Option.some.inj ((show Tryd.prog.funcNamed "loop.example/g00109/laws.FnExactReadScript" = some 3 by kernel_rfl).symm.trans hf) |>.symm
      obtain rfl : fn = Tryd.f3 := (Option.some.inj (Tryd.func3.symm.trans hfn)).symm
      exact ⟨by kernel_rfl, fun j t ht => by
        rw [Tryd.params3] at ht
        have hm : t ∈ [9] := by simpa using Array.mem_of_getElem? ht
        have hall : ([9].all fun u => !Tryd.prog.wantsStandIn u) = true := by kernel_rfl
        exact (show Tryd.prog.wantsStandIn t = false by simpa using List.all_eq_true.1 hall t hm)⟩)
    (by kernel_rfl)
#print axioms readScript_row
#print axioms readScript_holds
end Go.Proofs.YtilhlmedhgonbaaDoor
