/-
  No cell of these rows narrows 'for every input' (looked for: loops, veiled, ifaces, maps, wideKeys, modest, calm, conditions, laid).
  DERIVED. THE GIVEN ROWS OF THIS SEAT. 2 by the template 'for every input the law returns true; each argument reads behind the call as it read before'; 0 by the template 'total and deterministic' (their statements: YtilhlmedhgonbaaTotals.lean).
  GIVEN WITH THE SEED: the statements are not yours to turn. If you find one false, say at which input.
  Laid BY PROGRAM, IN A SANDBOX (cutbox-rows.mjs): the forced cells as the released guide's own fill.sh prints them over the translation 7b588e461f2f33e1… (all of the seat's roots in one cut). By AI agents, Wed Nov 11 2026. No macro, syntax, notation, axiom, sorry.
-/
import Derived.Test.YtilhlmedhgonbaaChecked
import GoSem.Claim
import GoSem.ClaimJoined
import GoSem.ClaimMapViews
import Derived.JoinedTies
import Derived.KernelRfl
namespace Go.Proofs.Ytilhlmedhgonbaa
/- THE CELL 'sum', in the pinned program and in every row, IS THE sha256 OF THE DUMP (.gsa) THAT YtilhlmedhgonbaaProg.lean LOADS. Nothing in Lean hashes anything: it is a label: what it is worth is what the hold of that sum in a sandbox is worth. -/
noncomputable def Try.pinned : Pinned := { name := "ytilhlmedhgonbaa", sum := "7b588e461f2f33e1993dd8147464f4a6dd47fea0b825332a8143b9622e156e59", checked := Try.checked }
namespace Rows
def none {H : Type} : Left H := { results := [], args := [] }

/-- 'laws.FnExactShowAnswer': WHATEVER THE INPUT: true; the input reads as it did. -/
def fnExactShowAnswerSpec : ChangeSpec := { name := "fnExactShowAnswer", fn := fun _ => fun
  | [d] => { results := [.lit (.bool true)], args := [d] }
  | _ => none }
def fnExactShowAnswerRow : OpenClaim := { program := "ytilhlmedhgonbaa", sum := "7b588e461f2f33e1993dd8147464f4a6dd47fea0b825332a8143b9622e156e59", func := "loop.example/g00109/laws.FnExactShowAnswer", spec := "fnExactShowAnswer", apart := false }
def FnExactShowAnswerSaid : Prop := fnExactShowAnswerRow.holds Try.pinned (OpenSpec.ofChange fnExactShowAnswerSpec)

/-- ITS FALSE NEIGHBOUR: 'it returns false'. Refute it at one input. -/
def fnExactShowAnswerWrong : ChangeSpec := { name := "fnExactShowAnswer", fn := fun _ => fun
  | [d] => { results := [.lit (.bool false)], args := [d] }
  | _ => none }
def FnExactShowAnswerWrongFalsely : Prop := fnExactShowAnswerRow.holds Try.pinned (OpenSpec.ofChange fnExactShowAnswerWrong)

/-- 'laws.FnExactSamePlain': WHATEVER THE INPUT: true; the input reads as it did. -/
def fnExactSamePlainSpec : ChangeSpec := { name := "fnExactSamePlain", fn := fun _ => fun
  | [d1, d2] => { results := [.lit (.bool true)], args := [d1, d2] }
  | _ => none }
def fnExactSamePlainRow : OpenClaim := { program := "ytilhlmedhgonbaa", sum := "7b588e461f2f33e1993dd8147464f4a6dd47fea0b825332a8143b9622e156e59", func := "loop.example/g00109/laws.FnExactSamePlain", spec := "fnExactSamePlain", unfollowed := true, recurses := true, apart := false }
def FnExactSamePlainSaid : Prop := fnExactSamePlainRow.holds Try.pinned (OpenSpec.ofChange fnExactSamePlainSpec)

/-- ITS FALSE NEIGHBOUR: 'it returns false'. Refute it at one input. -/
def fnExactSamePlainWrong : ChangeSpec := { name := "fnExactSamePlain", fn := fun _ => fun
  | [d1, d2] => { results := [.lit (.bool false)], args := [d1, d2] }
  | _ => none }
def FnExactSamePlainWrongFalsely : Prop := fnExactSamePlainRow.holds Try.pinned (OpenSpec.ofChange fnExactSamePlainWrong)

/- THE SECOND FORM. 'bulk': how many values and letters a reading holds, each counted each time it is reached (what is shared counts as often as it is met; a slice's spare places count too). A statement '..UptoSaid' is the law's where the arguments, and the package variables that the reading takes, are together of bulk at most 1048576: NARROWER than '..Said'. Prove '..Said' where nothing that the law and all that it calls make is longer than what came in: it says more and counts as full. Else prove '..UptoSaid'. A law counts once. -/
mutual
def uptoBulk {H : Type} : DataW H → Nat
  | .lit (.string bytes) => bytes.length + 1
  | .lit _ => 1
  | .nil => 1
  | .ptr d => uptoBulk d + 1
  | .slice elems spare => uptoBulkAll elems + uptoBulkAll spare + 1
  | .agg parts => uptoBulkAll parts + 1
  | .iface _ d => uptoBulk d + 1
  | .map entries => uptoBulkEntries entries + 1
  | .held _ => 1
def uptoBulkAll {H : Type} : List (DataW H) → Nat
  | [] => 0
  | d :: r => uptoBulk d + uptoBulkAll r
def uptoBulkEntries {H : Type} : List (Lit × DataW H) → Nat
  | [] => 0
  | x :: r => uptoBulkEntry x + uptoBulkEntries r
def uptoBulkEntry {H : Type} : Lit × DataW H → Nat
  | (.string bytes, d) => bytes.length + uptoBulk d + 1
  | (_, d) => uptoBulk d + 1
 end
def uptoSmall : (H : Type) → List (DataW H) → Bool := fun _ ds => decide (uptoBulkAll ds ≤ 1048576)
def OpenSpec.upto (s : _root_.Go.ChangeSpec) : _root_.Go.OpenSpec := { _root_.Go.OpenSpec.ofChange s with cond := some uptoSmall }

/-- 'laws.FnExactShowAnswer', WHERE WHAT IT READS IS OF BULK AT MOST 1048576: true; the input reads as it did. -/
def fnExactShowAnswerUptoRow : OpenClaim := { program := "ytilhlmedhgonbaa", sum := "7b588e461f2f33e1993dd8147464f4a6dd47fea0b825332a8143b9622e156e59", func := "loop.example/g00109/laws.FnExactShowAnswer", spec := "fnExactShowAnswer", apart := false, narrowed := true }
def FnExactShowAnswerUptoSaid : Prop := fnExactShowAnswerUptoRow.holds Try.pinned (OpenSpec.upto fnExactShowAnswerSpec)

/-- 'laws.FnExactSamePlain', WHERE WHAT IT READS IS OF BULK AT MOST 1048576: true; the input reads as it did. -/
def fnExactSamePlainUptoRow : OpenClaim := { program := "ytilhlmedhgonbaa", sum := "7b588e461f2f33e1993dd8147464f4a6dd47fea0b825332a8143b9622e156e59", func := "loop.example/g00109/laws.FnExactSamePlain", spec := "fnExactSamePlain", unfollowed := true, recurses := true, apart := false, narrowed := true }
def FnExactSamePlainUptoSaid : Prop := fnExactSamePlainUptoRow.holds Try.pinned (OpenSpec.upto fnExactSamePlainSpec)

end Rows
end Go.Proofs.Ytilhlmedhgonbaa
