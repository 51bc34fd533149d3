/-
  No cell of these rows narrows 'for every input' (looked for: loops, veiled, ifaces, maps, wideKeys, modest, calm, conditions, laid).
  DERIVED. THE GIVEN ROWS OF THIS SEAT. 12 by the template 'for every input the law returns true; each argument reads behind the call as it read before'; 0 by the template 'total and deterministic' (their statements: YticidjkonpphfaaGreatTotals.lean).
  GIVEN WITH THE SEED: the statements are not yours to turn. If you find one false, say at which input.
  Laid BY PROGRAM, IN A SANDBOX (cutbox-rows.mjs): the forced cells as the released guide's own fill.sh prints them over the translation 27ca92b6293100b0… (all of the seat's roots in one cut). By AI agents, Wed Nov 11 2026. No macro, syntax, notation, axiom, sorry.
-/
import Derived.Test.YticidjkonpphfaaGreatChecked
import GoSem.Claim
import GoSem.ClaimJoined
import GoSem.ClaimMapViews
import Derived.JoinedTies
import Derived.KernelRfl
namespace Go.Proofs.YticidjkonpphfaaGreat
/- THE CELL 'sum', in the pinned program and in every row, IS THE sha256 OF THE DUMP (.gsa) THAT YticidjkonpphfaaGreatProg.lean LOADS. Nothing in Lean hashes anything: it is a label: what it is worth is what the hold of that sum in a sandbox is worth. -/
noncomputable def Tryz.pinned : Pinned := { name := "yticidjkonpphfaagreat", sum := "27ca92b6293100b006e8143a4d6e6b9aeeba9771bc546b086b2aa1532305933c", checked := Tryz.checked }
namespace Rows
def none {H : Type} : Left H := { results := [], args := [] }

/-- 'laws.FnApart': WHATEVER THE INPUT: true; the input reads as it did. -/
def fnApartSpec : ChangeSpec := { name := "fnApart", fn := fun _ => fun
  | [d] => { results := [.lit (.bool true)], args := [d] }
  | _ => none }
def fnApartRow : OpenClaim := { program := "yticidjkonpphfaagreat", sum := "27ca92b6293100b006e8143a4d6e6b9aeeba9771bc546b086b2aa1532305933c", func := "loop.example/g00109/laws.FnApart", spec := "fnApart", unfollowed := true, recurses := true, plainKeys := false, apart := false }
def FnApartSaid : Prop := fnApartRow.holds Tryz.pinned (OpenSpec.ofChange fnApartSpec)

/-- ITS FALSE NEIGHBOUR: 'it returns false'. Refute it at one input. -/
def fnApartWrong : ChangeSpec := { name := "fnApart", fn := fun _ => fun
  | [d] => { results := [.lit (.bool false)], args := [d] }
  | _ => none }
def FnApartWrongFalsely : Prop := fnApartRow.holds Tryz.pinned (OpenSpec.ofChange fnApartWrong)

/-- 'laws.FnMoves': WHATEVER THE INPUT: true; the input reads as it did. -/
def fnMovesSpec : ChangeSpec := { name := "fnMoves", fn := fun _ => fun
  | [d] => { results := [.lit (.bool true)], args := [d] }
  | _ => none }
def fnMovesRow : OpenClaim := { program := "yticidjkonpphfaagreat", sum := "27ca92b6293100b006e8143a4d6e6b9aeeba9771bc546b086b2aa1532305933c", func := "loop.example/g00109/laws.FnMoves", spec := "fnMoves", unfollowed := true, recurses := true, plainKeys := false, apart := false }
def FnMovesSaid : Prop := fnMovesRow.holds Tryz.pinned (OpenSpec.ofChange fnMovesSpec)

/-- ITS FALSE NEIGHBOUR: 'it returns false'. Refute it at one input. -/
def fnMovesWrong : ChangeSpec := { name := "fnMoves", fn := fun _ => fun
  | [d] => { results := [.lit (.bool false)], args := [d] }
  | _ => none }
def FnMovesWrongFalsely : Prop := fnMovesRow.holds Tryz.pinned (OpenSpec.ofChange fnMovesWrong)

/-- 'laws.FnEvicts': WHATEVER THE INPUT: true; the input reads as it did. -/
def fnEvictsSpec : ChangeSpec := { name := "fnEvicts", fn := fun _ => fun
  | [d] => { results := [.lit (.bool true)], args := [d] }
  | _ => none }
def fnEvictsRow : OpenClaim := { program := "yticidjkonpphfaagreat", sum := "27ca92b6293100b006e8143a4d6e6b9aeeba9771bc546b086b2aa1532305933c", func := "loop.example/g00109/laws.FnEvicts", spec := "fnEvicts", unfollowed := true, recurses := true, plainKeys := false, apart := false }
def FnEvictsSaid : Prop := fnEvictsRow.holds Tryz.pinned (OpenSpec.ofChange fnEvictsSpec)

/-- ITS FALSE NEIGHBOUR: 'it returns false'. Refute it at one input. -/
def fnEvictsWrong : ChangeSpec := { name := "fnEvicts", fn := fun _ => fun
  | [d] => { results := [.lit (.bool false)], args := [d] }
  | _ => none }
def FnEvictsWrongFalsely : Prop := fnEvictsRow.holds Tryz.pinned (OpenSpec.ofChange fnEvictsWrong)

/-- 'laws.FnReclaims': WHATEVER THE INPUT: true; the input reads as it did. -/
def fnReclaimsSpec : ChangeSpec := { name := "fnReclaims", fn := fun _ => fun
  | [d] => { results := [.lit (.bool true)], args := [d] }
  | _ => none }
def fnReclaimsRow : OpenClaim := { program := "yticidjkonpphfaagreat", sum := "27ca92b6293100b006e8143a4d6e6b9aeeba9771bc546b086b2aa1532305933c", func := "loop.example/g00109/laws.FnReclaims", spec := "fnReclaims", unfollowed := true, recurses := true, plainKeys := false, apart := false }
def FnReclaimsSaid : Prop := fnReclaimsRow.holds Tryz.pinned (OpenSpec.ofChange fnReclaimsSpec)

/-- ITS FALSE NEIGHBOUR: 'it returns false'. Refute it at one input. -/
def fnReclaimsWrong : ChangeSpec := { name := "fnReclaims", fn := fun _ => fun
  | [d] => { results := [.lit (.bool false)], args := [d] }
  | _ => none }
def FnReclaimsWrongFalsely : Prop := fnReclaimsRow.holds Tryz.pinned (OpenSpec.ofChange fnReclaimsWrong)

/-- 'laws.FnCompacts': WHATEVER THE INPUT: true; the input reads as it did. -/
def fnCompactsSpec : ChangeSpec := { name := "fnCompacts", fn := fun _ => fun
  | [d] => { results := [.lit (.bool true)], args := [d] }
  | _ => none }
def fnCompactsRow : OpenClaim := { program := "yticidjkonpphfaagreat", sum := "27ca92b6293100b006e8143a4d6e6b9aeeba9771bc546b086b2aa1532305933c", func := "loop.example/g00109/laws.FnCompacts", spec := "fnCompacts", unfollowed := true, recurses := true, plainKeys := false, apart := false }
def FnCompactsSaid : Prop := fnCompactsRow.holds Tryz.pinned (OpenSpec.ofChange fnCompactsSpec)

/-- ITS FALSE NEIGHBOUR: 'it returns false'. Refute it at one input. -/
def fnCompactsWrong : ChangeSpec := { name := "fnCompacts", fn := fun _ => fun
  | [d] => { results := [.lit (.bool false)], args := [d] }
  | _ => none }
def FnCompactsWrongFalsely : Prop := fnCompactsRow.holds Tryz.pinned (OpenSpec.ofChange fnCompactsWrong)

/-- 'laws.FnRefused': WHATEVER THE INPUT: true; the input reads as it did. -/
def fnRefusedSpec : ChangeSpec := { name := "fnRefused", fn := fun _ => fun
  | [d] => { results := [.lit (.bool true)], args := [d] }
  | _ => none }
def fnRefusedRow : OpenClaim := { program := "yticidjkonpphfaagreat", sum := "27ca92b6293100b006e8143a4d6e6b9aeeba9771bc546b086b2aa1532305933c", func := "loop.example/g00109/laws.FnRefused", spec := "fnRefused", unfollowed := true, recurses := true, plainKeys := false, apart := false }
def FnRefusedSaid : Prop := fnRefusedRow.holds Tryz.pinned (OpenSpec.ofChange fnRefusedSpec)

/-- ITS FALSE NEIGHBOUR: 'it returns false'. Refute it at one input. -/
def fnRefusedWrong : ChangeSpec := { name := "fnRefused", fn := fun _ => fun
  | [d] => { results := [.lit (.bool false)], args := [d] }
  | _ => none }
def FnRefusedWrongFalsely : Prop := fnRefusedRow.holds Tryz.pinned (OpenSpec.ofChange fnRefusedWrong)

/-- 'laws.FnEmpty': WHATEVER THE INPUT: true; the input reads as it did. -/
def fnEmptySpec : ChangeSpec := { name := "fnEmpty", fn := fun _ => fun
  | [d] => { results := [.lit (.bool true)], args := [d] }
  | _ => none }
def fnEmptyRow : OpenClaim := { program := "yticidjkonpphfaagreat", sum := "27ca92b6293100b006e8143a4d6e6b9aeeba9771bc546b086b2aa1532305933c", func := "loop.example/g00109/laws.FnEmpty", spec := "fnEmpty", unfollowed := true, recurses := true, plainKeys := false, apart := false }
def FnEmptySaid : Prop := fnEmptyRow.holds Tryz.pinned (OpenSpec.ofChange fnEmptySpec)

/-- ITS FALSE NEIGHBOUR: 'it returns false'. Refute it at one input. -/
def fnEmptyWrong : ChangeSpec := { name := "fnEmpty", fn := fun _ => fun
  | [d] => { results := [.lit (.bool false)], args := [d] }
  | _ => none }
def FnEmptyWrongFalsely : Prop := fnEmptyRow.holds Tryz.pinned (OpenSpec.ofChange fnEmptyWrong)

/-- 'laws.FnExits': WHATEVER THE INPUT: true; the input reads as it did. -/
def fnExitsSpec : ChangeSpec := { name := "fnExits", fn := fun _ => fun
  | [d] => { results := [.lit (.bool true)], args := [d] }
  | _ => none }
def fnExitsRow : OpenClaim := { program := "yticidjkonpphfaagreat", sum := "27ca92b6293100b006e8143a4d6e6b9aeeba9771bc546b086b2aa1532305933c", func := "loop.example/g00109/laws.FnExits", spec := "fnExits", unfollowed := true, recurses := true, plainKeys := false, apart := false }
def FnExitsSaid : Prop := fnExitsRow.holds Tryz.pinned (OpenSpec.ofChange fnExitsSpec)

/-- ITS FALSE NEIGHBOUR: 'it returns false'. Refute it at one input. -/
def fnExitsWrong : ChangeSpec := { name := "fnExits", fn := fun _ => fun
  | [d] => { results := [.lit (.bool false)], args := [d] }
  | _ => none }
def FnExitsWrongFalsely : Prop := fnExitsRow.holds Tryz.pinned (OpenSpec.ofChange fnExitsWrong)

/-- 'laws.FnReads': WHATEVER THE INPUT: true; the input reads as it did. -/
def fnReadsSpec : ChangeSpec := { name := "fnReads", fn := fun _ => fun
  | [d] => { results := [.lit (.bool true)], args := [d] }
  | _ => none }
def fnReadsRow : OpenClaim := { program := "yticidjkonpphfaagreat", sum := "27ca92b6293100b006e8143a4d6e6b9aeeba9771bc546b086b2aa1532305933c", func := "loop.example/g00109/laws.FnReads", spec := "fnReads", unfollowed := true, recurses := true, plainKeys := false, apart := false }
def FnReadsSaid : Prop := fnReadsRow.holds Tryz.pinned (OpenSpec.ofChange fnReadsSpec)

/-- ITS FALSE NEIGHBOUR: 'it returns false'. Refute it at one input. -/
def fnReadsWrong : ChangeSpec := { name := "fnReads", fn := fun _ => fun
  | [d] => { results := [.lit (.bool false)], args := [d] }
  | _ => none }
def FnReadsWrongFalsely : Prop := fnReadsRow.holds Tryz.pinned (OpenSpec.ofChange fnReadsWrong)

/-- 'laws.FnWrites': WHATEVER THE INPUT: true; the input reads as it did. -/
def fnWritesSpec : ChangeSpec := { name := "fnWrites", fn := fun _ => fun
  | [d] => { results := [.lit (.bool true)], args := [d] }
  | _ => none }
def fnWritesRow : OpenClaim := { program := "yticidjkonpphfaagreat", sum := "27ca92b6293100b006e8143a4d6e6b9aeeba9771bc546b086b2aa1532305933c", func := "loop.example/g00109/laws.FnWrites", spec := "fnWrites", unfollowed := true, recurses := true, plainKeys := false, apart := false }
def FnWritesSaid : Prop := fnWritesRow.holds Tryz.pinned (OpenSpec.ofChange fnWritesSpec)

/-- ITS FALSE NEIGHBOUR: 'it returns false'. Refute it at one input. -/
def fnWritesWrong : ChangeSpec := { name := "fnWrites", fn := fun _ => fun
  | [d] => { results := [.lit (.bool false)], args := [d] }
  | _ => none }
def FnWritesWrongFalsely : Prop := fnWritesRow.holds Tryz.pinned (OpenSpec.ofChange fnWritesWrong)

/-- 'laws.FnUnmaps': WHATEVER THE INPUT: true; the input reads as it did. -/
def fnUnmapsSpec : ChangeSpec := { name := "fnUnmaps", fn := fun _ => fun
  | [d] => { results := [.lit (.bool true)], args := [d] }
  | _ => none }
def fnUnmapsRow : OpenClaim := { program := "yticidjkonpphfaagreat", sum := "27ca92b6293100b006e8143a4d6e6b9aeeba9771bc546b086b2aa1532305933c", func := "loop.example/g00109/laws.FnUnmaps", spec := "fnUnmaps", unfollowed := true, recurses := true, plainKeys := false, apart := false }
def FnUnmapsSaid : Prop := fnUnmapsRow.holds Tryz.pinned (OpenSpec.ofChange fnUnmapsSpec)

/-- ITS FALSE NEIGHBOUR: 'it returns false'. Refute it at one input. -/
def fnUnmapsWrong : ChangeSpec := { name := "fnUnmaps", fn := fun _ => fun
  | [d] => { results := [.lit (.bool false)], args := [d] }
  | _ => none }
def FnUnmapsWrongFalsely : Prop := fnUnmapsRow.holds Tryz.pinned (OpenSpec.ofChange fnUnmapsWrong)

/-- 'laws.FnProtects': WHATEVER THE INPUT: true; the input reads as it did. -/
def fnProtectsSpec : ChangeSpec := { name := "fnProtects", fn := fun _ => fun
  | [d] => { results := [.lit (.bool true)], args := [d] }
  | _ => none }
def fnProtectsRow : OpenClaim := { program := "yticidjkonpphfaagreat", sum := "27ca92b6293100b006e8143a4d6e6b9aeeba9771bc546b086b2aa1532305933c", func := "loop.example/g00109/laws.FnProtects", spec := "fnProtects", unfollowed := true, recurses := true, plainKeys := false, apart := false }
def FnProtectsSaid : Prop := fnProtectsRow.holds Tryz.pinned (OpenSpec.ofChange fnProtectsSpec)

/-- ITS FALSE NEIGHBOUR: 'it returns false'. Refute it at one input. -/
def fnProtectsWrong : ChangeSpec := { name := "fnProtects", fn := fun _ => fun
  | [d] => { results := [.lit (.bool false)], args := [d] }
  | _ => none }
def FnProtectsWrongFalsely : Prop := fnProtectsRow.holds Tryz.pinned (OpenSpec.ofChange fnProtectsWrong)

/- THE SECOND FORM. 'bulk': how many values and letters a reading holds, each counted each time it is reached (what is shared counts as often as it is met; a slice's spare places count too). A statement '..UptoSaid' is the law's where the arguments, and the package variables that the reading takes, are together of bulk at most 1048576: NARROWER than '..Said'. Prove '..Said' where nothing that the law and all that it calls make is longer than what came in: it says more and counts as full. Else prove '..UptoSaid'. A law counts once. -/
mutual
def uptoBulk {H : Type} : DataW H → Nat
  | .lit (.string bytes) => bytes.length + 1
  | .lit _ => 1
  | .nil => 1
  | .ptr d => uptoBulk d + 1
  | .slice elems spare => uptoBulkAll elems + uptoBulkAll spare + 1
  | .agg parts => uptoBulkAll parts + 1
  | .iface _ d => uptoBulk d + 1
  | .map entries => uptoBulkEntries entries + 1
  | .held _ => 1
def uptoBulkAll {H : Type} : List (DataW H) → Nat
  | [] => 0
  | d :: r => uptoBulk d + uptoBulkAll r
def uptoBulkEntries {H : Type} : List (Lit × DataW H) → Nat
  | [] => 0
  | x :: r => uptoBulkEntry x + uptoBulkEntries r
def uptoBulkEntry {H : Type} : Lit × DataW H → Nat
  | (.string bytes, d) => bytes.length + uptoBulk d + 1
  | (_, d) => uptoBulk d + 1
 end
def uptoSmall : (H : Type) → List (DataW H) → Bool := fun _ ds => decide (uptoBulkAll ds ≤ 1048576)
def OpenSpec.upto (s : _root_.Go.ChangeSpec) : _root_.Go.OpenSpec := { _root_.Go.OpenSpec.ofChange s with cond := some uptoSmall }

/-- 'laws.FnApart', WHERE WHAT IT READS IS OF BULK AT MOST 1048576: true; the input reads as it did. -/
def fnApartUptoRow : OpenClaim := { program := "yticidjkonpphfaagreat", sum := "27ca92b6293100b006e8143a4d6e6b9aeeba9771bc546b086b2aa1532305933c", func := "loop.example/g00109/laws.FnApart", spec := "fnApart", unfollowed := true, recurses := true, plainKeys := false, apart := false, narrowed := true }
def FnApartUptoSaid : Prop := fnApartUptoRow.holds Tryz.pinned (OpenSpec.upto fnApartSpec)

/-- 'laws.FnMoves', WHERE WHAT IT READS IS OF BULK AT MOST 1048576: true; the input reads as it did. -/
def fnMovesUptoRow : OpenClaim := { program := "yticidjkonpphfaagreat", sum := "27ca92b6293100b006e8143a4d6e6b9aeeba9771bc546b086b2aa1532305933c", func := "loop.example/g00109/laws.FnMoves", spec := "fnMoves", unfollowed := true, recurses := true, plainKeys := false, apart := false, narrowed := true }
def FnMovesUptoSaid : Prop := fnMovesUptoRow.holds Tryz.pinned (OpenSpec.upto fnMovesSpec)

/-- 'laws.FnEvicts', WHERE WHAT IT READS IS OF BULK AT MOST 1048576: true; the input reads as it did. -/
def fnEvictsUptoRow : OpenClaim := { program := "yticidjkonpphfaagreat", sum := "27ca92b6293100b006e8143a4d6e6b9aeeba9771bc546b086b2aa1532305933c", func := "loop.example/g00109/laws.FnEvicts", spec := "fnEvicts", unfollowed := true, recurses := true, plainKeys := false, apart := false, narrowed := true }
def FnEvictsUptoSaid : Prop := fnEvictsUptoRow.holds Tryz.pinned (OpenSpec.upto fnEvictsSpec)

/-- 'laws.FnReclaims', WHERE WHAT IT READS IS OF BULK AT MOST 1048576: true; the input reads as it did. -/
def fnReclaimsUptoRow : OpenClaim := { program := "yticidjkonpphfaagreat", sum := "27ca92b6293100b006e8143a4d6e6b9aeeba9771bc546b086b2aa1532305933c", func := "loop.example/g00109/laws.FnReclaims", spec := "fnReclaims", unfollowed := true, recurses := true, plainKeys := false, apart := false, narrowed := true }
def FnReclaimsUptoSaid : Prop := fnReclaimsUptoRow.holds Tryz.pinned (OpenSpec.upto fnReclaimsSpec)

/-- 'laws.FnCompacts', WHERE WHAT IT READS IS OF BULK AT MOST 1048576: true; the input reads as it did. -/
def fnCompactsUptoRow : OpenClaim := { program := "yticidjkonpphfaagreat", sum := "27ca92b6293100b006e8143a4d6e6b9aeeba9771bc546b086b2aa1532305933c", func := "loop.example/g00109/laws.FnCompacts", spec := "fnCompacts", unfollowed := true, recurses := true, plainKeys := false, apart := false, narrowed := true }
def FnCompactsUptoSaid : Prop := fnCompactsUptoRow.holds Tryz.pinned (OpenSpec.upto fnCompactsSpec)

/-- 'laws.FnRefused', WHERE WHAT IT READS IS OF BULK AT MOST 1048576: true; the input reads as it did. -/
def fnRefusedUptoRow : OpenClaim := { program := "yticidjkonpphfaagreat", sum := "27ca92b6293100b006e8143a4d6e6b9aeeba9771bc546b086b2aa1532305933c", func := "loop.example/g00109/laws.FnRefused", spec := "fnRefused", unfollowed := true, recurses := true, plainKeys := false, apart := false, narrowed := true }
def FnRefusedUptoSaid : Prop := fnRefusedUptoRow.holds Tryz.pinned (OpenSpec.upto fnRefusedSpec)

/-- 'laws.FnEmpty', WHERE WHAT IT READS IS OF BULK AT MOST 1048576: true; the input reads as it did. -/
def fnEmptyUptoRow : OpenClaim := { program := "yticidjkonpphfaagreat", sum := "27ca92b6293100b006e8143a4d6e6b9aeeba9771bc546b086b2aa1532305933c", func := "loop.example/g00109/laws.FnEmpty", spec := "fnEmpty", unfollowed := true, recurses := true, plainKeys := false, apart := false, narrowed := true }
def FnEmptyUptoSaid : Prop := fnEmptyUptoRow.holds Tryz.pinned (OpenSpec.upto fnEmptySpec)

/-- 'laws.FnExits', WHERE WHAT IT READS IS OF BULK AT MOST 1048576: true; the input reads as it did. -/
def fnExitsUptoRow : OpenClaim := { program := "yticidjkonpphfaagreat", sum := "27ca92b6293100b006e8143a4d6e6b9aeeba9771bc546b086b2aa1532305933c", func := "loop.example/g00109/laws.FnExits", spec := "fnExits", unfollowed := true, recurses := true, plainKeys := false, apart := false, narrowed := true }
def FnExitsUptoSaid : Prop := fnExitsUptoRow.holds Tryz.pinned (OpenSpec.upto fnExitsSpec)

/-- 'laws.FnReads', WHERE WHAT IT READS IS OF BULK AT MOST 1048576: true; the input reads as it did. -/
def fnReadsUptoRow : OpenClaim := { program := "yticidjkonpphfaagreat", sum := "27ca92b6293100b006e8143a4d6e6b9aeeba9771bc546b086b2aa1532305933c", func := "loop.example/g00109/laws.FnReads", spec := "fnReads", unfollowed := true, recurses := true, plainKeys := false, apart := false, narrowed := true }
def FnReadsUptoSaid : Prop := fnReadsUptoRow.holds Tryz.pinned (OpenSpec.upto fnReadsSpec)

/-- 'laws.FnWrites', WHERE WHAT IT READS IS OF BULK AT MOST 1048576: true; the input reads as it did. -/
def fnWritesUptoRow : OpenClaim := { program := "yticidjkonpphfaagreat", sum := "27ca92b6293100b006e8143a4d6e6b9aeeba9771bc546b086b2aa1532305933c", func := "loop.example/g00109/laws.FnWrites", spec := "fnWrites", unfollowed := true, recurses := true, plainKeys := false, apart := false, narrowed := true }
def FnWritesUptoSaid : Prop := fnWritesUptoRow.holds Tryz.pinned (OpenSpec.upto fnWritesSpec)

/-- 'laws.FnUnmaps', WHERE WHAT IT READS IS OF BULK AT MOST 1048576: true; the input reads as it did. -/
def fnUnmapsUptoRow : OpenClaim := { program := "yticidjkonpphfaagreat", sum := "27ca92b6293100b006e8143a4d6e6b9aeeba9771bc546b086b2aa1532305933c", func := "loop.example/g00109/laws.FnUnmaps", spec := "fnUnmaps", unfollowed := true, recurses := true, plainKeys := false, apart := false, narrowed := true }
def FnUnmapsUptoSaid : Prop := fnUnmapsUptoRow.holds Tryz.pinned (OpenSpec.upto fnUnmapsSpec)

/-- 'laws.FnProtects', WHERE WHAT IT READS IS OF BULK AT MOST 1048576: true; the input reads as it did. -/
def fnProtectsUptoRow : OpenClaim := { program := "yticidjkonpphfaagreat", sum := "27ca92b6293100b006e8143a4d6e6b9aeeba9771bc546b086b2aa1532305933c", func := "loop.example/g00109/laws.FnProtects", spec := "fnProtects", unfollowed := true, recurses := true, plainKeys := false, apart := false, narrowed := true }
def FnProtectsUptoSaid : Prop := fnProtectsUptoRow.holds Tryz.pinned (OpenSpec.upto fnProtectsSpec)

end Rows
end Go.Proofs.YticidjkonpphfaaGreat
