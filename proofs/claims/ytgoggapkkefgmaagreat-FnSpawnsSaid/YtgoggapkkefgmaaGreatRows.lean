/-
  No cell of these rows narrows 'for every input' (looked for: loops, veiled, ifaces, maps, wideKeys, modest, calm, conditions, laid).
  DERIVED. THE GIVEN ROWS OF THIS SEAT. 6 by the template 'for every input the law returns true; each argument reads behind the call as it read before'; 0 by the template 'total and deterministic' (their statements: YtgoggapkkefgmaaGreatTotals.lean).
  GIVEN WITH THE SEED: the statements are not yours to turn. If you find one false, say at which input.
  Laid BY PROGRAM, IN A SANDBOX (cutbox-rows.mjs): the forced cells as the released guide's own fill.sh prints them over the translation f82f76e199f08660… (all of the seat's roots in one cut). By AI agents, Wed Nov 11 2026. No macro, syntax, notation, axiom, sorry.
-/
import Derived.Test.YtgoggapkkefgmaaGreatChecked
import GoSem.Claim
import GoSem.ClaimJoined
import GoSem.ClaimMapViews
import Derived.JoinedTies
import Derived.KernelRfl
namespace Go.Proofs.YtgoggapkkefgmaaGreat
/- THE CELL 'sum', in the pinned program and in every row, IS THE sha256 OF THE DUMP (.gsa) THAT YtgoggapkkefgmaaGreatProg.lean LOADS. Nothing in Lean hashes anything: it is a label: what it is worth is what the hold of that sum in a sandbox is worth. -/
noncomputable def Tryz.pinned : Pinned := { name := "ytgoggapkkefgmaagreat", sum := "f82f76e199f08660dd5e994557387b9700d9711bc209764a0c2069c6cf4a823c", checked := Tryz.checked }
namespace Rows
def none {H : Type} : Left H := { results := [], args := [] }

/-- 'laws.FnMaps': WHATEVER THE INPUT: true; the input reads as it did. -/
def fnMapsSpec : ChangeSpec := { name := "fnMaps", fn := fun _ => fun
  | [d] => { results := [.lit (.bool true)], args := [d] }
  | _ => none }
def fnMapsRow : OpenClaim := { program := "ytgoggapkkefgmaagreat", sum := "f82f76e199f08660dd5e994557387b9700d9711bc209764a0c2069c6cf4a823c", func := "loop.example/g00109/laws.FnMaps", spec := "fnMaps", unfollowed := true, recurses := true, plainKeys := false, apart := false }
def FnMapsSaid : Prop := fnMapsRow.holds Tryz.pinned (OpenSpec.ofChange fnMapsSpec)

/-- ITS FALSE NEIGHBOUR: 'it returns false'. Refute it at one input. -/
def fnMapsWrong : ChangeSpec := { name := "fnMaps", fn := fun _ => fun
  | [d] => { results := [.lit (.bool false)], args := [d] }
  | _ => none }
def FnMapsWrongFalsely : Prop := fnMapsRow.holds Tryz.pinned (OpenSpec.ofChange fnMapsWrong)

/-- 'laws.FnSpawns': WHATEVER THE INPUT: true; the input reads as it did. -/
def fnSpawnsSpec : ChangeSpec := { name := "fnSpawns", fn := fun _ => fun
  | [d] => { results := [.lit (.bool true)], args := [d] }
  | _ => none }
def fnSpawnsRow : OpenClaim := { program := "ytgoggapkkefgmaagreat", sum := "f82f76e199f08660dd5e994557387b9700d9711bc209764a0c2069c6cf4a823c", func := "loop.example/g00109/laws.FnSpawns", spec := "fnSpawns", unfollowed := true, recurses := true, plainKeys := false, apart := false }
def FnSpawnsSaid : Prop := fnSpawnsRow.holds Tryz.pinned (OpenSpec.ofChange fnSpawnsSpec)

/-- ITS FALSE NEIGHBOUR: 'it returns false'. Refute it at one input. -/
def fnSpawnsWrong : ChangeSpec := { name := "fnSpawns", fn := fun _ => fun
  | [d] => { results := [.lit (.bool false)], args := [d] }
  | _ => none }
def FnSpawnsWrongFalsely : Prop := fnSpawnsRow.holds Tryz.pinned (OpenSpec.ofChange fnSpawnsWrong)

/-- 'laws.FnCensus': WHATEVER THE INPUT: true; the input reads as it did. -/
def fnCensusSpec : ChangeSpec := { name := "fnCensus", fn := fun _ => fun
  | [d] => { results := [.lit (.bool true)], args := [d] }
  | _ => none }
def fnCensusRow : OpenClaim := { program := "ytgoggapkkefgmaagreat", sum := "f82f76e199f08660dd5e994557387b9700d9711bc209764a0c2069c6cf4a823c", func := "loop.example/g00109/laws.FnCensus", spec := "fnCensus", unfollowed := true, recurses := true, plainKeys := false, apart := false }
def FnCensusSaid : Prop := fnCensusRow.holds Tryz.pinned (OpenSpec.ofChange fnCensusSpec)

/-- ITS FALSE NEIGHBOUR: 'it returns false'. Refute it at one input. -/
def fnCensusWrong : ChangeSpec := { name := "fnCensus", fn := fun _ => fun
  | [d] => { results := [.lit (.bool false)], args := [d] }
  | _ => none }
def FnCensusWrongFalsely : Prop := fnCensusRow.holds Tryz.pinned (OpenSpec.ofChange fnCensusWrong)

/-- 'laws.FnApart': WHATEVER THE INPUT: true; the input reads as it did. -/
def fnApartSpec : ChangeSpec := { name := "fnApart", fn := fun _ => fun
  | [d] => { results := [.lit (.bool true)], args := [d] }
  | _ => none }
def fnApartRow : OpenClaim := { program := "ytgoggapkkefgmaagreat", sum := "f82f76e199f08660dd5e994557387b9700d9711bc209764a0c2069c6cf4a823c", func := "loop.example/g00109/laws.FnApart", spec := "fnApart", unfollowed := true, recurses := true, plainKeys := false, apart := false }
def FnApartSaid : Prop := fnApartRow.holds Tryz.pinned (OpenSpec.ofChange fnApartSpec)

/-- ITS FALSE NEIGHBOUR: 'it returns false'. Refute it at one input. -/
def fnApartWrong : ChangeSpec := { name := "fnApart", fn := fun _ => fun
  | [d] => { results := [.lit (.bool false)], args := [d] }
  | _ => none }
def FnApartWrongFalsely : Prop := fnApartRow.holds Tryz.pinned (OpenSpec.ofChange fnApartWrong)

/-- 'laws.FnMoves': WHATEVER THE INPUT: true; the input reads as it did. -/
def fnMovesSpec : ChangeSpec := { name := "fnMoves", fn := fun _ => fun
  | [d] => { results := [.lit (.bool true)], args := [d] }
  | _ => none }
def fnMovesRow : OpenClaim := { program := "ytgoggapkkefgmaagreat", sum := "f82f76e199f08660dd5e994557387b9700d9711bc209764a0c2069c6cf4a823c", func := "loop.example/g00109/laws.FnMoves", spec := "fnMoves", unfollowed := true, recurses := true, plainKeys := false, apart := false }
def FnMovesSaid : Prop := fnMovesRow.holds Tryz.pinned (OpenSpec.ofChange fnMovesSpec)

/-- ITS FALSE NEIGHBOUR: 'it returns false'. Refute it at one input. -/
def fnMovesWrong : ChangeSpec := { name := "fnMoves", fn := fun _ => fun
  | [d] => { results := [.lit (.bool false)], args := [d] }
  | _ => none }
def FnMovesWrongFalsely : Prop := fnMovesRow.holds Tryz.pinned (OpenSpec.ofChange fnMovesWrong)

/-- 'laws.FnEvicts': WHATEVER THE INPUT: true; the input reads as it did. -/
def fnEvictsSpec : ChangeSpec := { name := "fnEvicts", fn := fun _ => fun
  | [d] => { results := [.lit (.bool true)], args := [d] }
  | _ => none }
def fnEvictsRow : OpenClaim := { program := "ytgoggapkkefgmaagreat", sum := "f82f76e199f08660dd5e994557387b9700d9711bc209764a0c2069c6cf4a823c", func := "loop.example/g00109/laws.FnEvicts", spec := "fnEvicts", unfollowed := true, recurses := true, plainKeys := false, apart := false }
def FnEvictsSaid : Prop := fnEvictsRow.holds Tryz.pinned (OpenSpec.ofChange fnEvictsSpec)

/-- ITS FALSE NEIGHBOUR: 'it returns false'. Refute it at one input. -/
def fnEvictsWrong : ChangeSpec := { name := "fnEvicts", fn := fun _ => fun
  | [d] => { results := [.lit (.bool false)], args := [d] }
  | _ => none }
def FnEvictsWrongFalsely : Prop := fnEvictsRow.holds Tryz.pinned (OpenSpec.ofChange fnEvictsWrong)

/- THE SECOND FORM. 'bulk': how many values and letters a reading holds, each counted each time it is reached (what is shared counts as often as it is met; a slice's spare places count too). A statement '..UptoSaid' is the law's where the arguments, and the package variables that the reading takes, are together of bulk at most 1048576: NARROWER than '..Said'. Prove '..Said' where nothing that the law and all that it calls make is longer than what came in: it says more and counts as full. Else prove '..UptoSaid'. A law counts once. -/
mutual
def uptoBulk {H : Type} : DataW H → Nat
  | .lit (.string bytes) => bytes.length + 1
  | .lit _ => 1
  | .nil => 1
  | .ptr d => uptoBulk d + 1
  | .slice elems spare => uptoBulkAll elems + uptoBulkAll spare + 1
  | .agg parts => uptoBulkAll parts + 1
  | .iface _ d => uptoBulk d + 1
  | .map entries => uptoBulkEntries entries + 1
  | .held _ => 1
def uptoBulkAll {H : Type} : List (DataW H) → Nat
  | [] => 0
  | d :: r => uptoBulk d + uptoBulkAll r
def uptoBulkEntries {H : Type} : List (Lit × DataW H) → Nat
  | [] => 0
  | x :: r => uptoBulkEntry x + uptoBulkEntries r
def uptoBulkEntry {H : Type} : Lit × DataW H → Nat
  | (.string bytes, d) => bytes.length + uptoBulk d + 1
  | (_, d) => uptoBulk d + 1
 end
def uptoSmall : (H : Type) → List (DataW H) → Bool := fun _ ds => decide (uptoBulkAll ds ≤ 1048576)
def OpenSpec.upto (s : _root_.Go.ChangeSpec) : _root_.Go.OpenSpec := { _root_.Go.OpenSpec.ofChange s with cond := some uptoSmall }

/-- 'laws.FnMaps', WHERE WHAT IT READS IS OF BULK AT MOST 1048576: true; the input reads as it did. -/
def fnMapsUptoRow : OpenClaim := { program := "ytgoggapkkefgmaagreat", sum := "f82f76e199f08660dd5e994557387b9700d9711bc209764a0c2069c6cf4a823c", func := "loop.example/g00109/laws.FnMaps", spec := "fnMaps", unfollowed := true, recurses := true, plainKeys := false, apart := false, narrowed := true }
def FnMapsUptoSaid : Prop := fnMapsUptoRow.holds Tryz.pinned (OpenSpec.upto fnMapsSpec)

/-- 'laws.FnSpawns', WHERE WHAT IT READS IS OF BULK AT MOST 1048576: true; the input reads as it did. -/
def fnSpawnsUptoRow : OpenClaim := { program := "ytgoggapkkefgmaagreat", sum := "f82f76e199f08660dd5e994557387b9700d9711bc209764a0c2069c6cf4a823c", func := "loop.example/g00109/laws.FnSpawns", spec := "fnSpawns", unfollowed := true, recurses := true, plainKeys := false, apart := false, narrowed := true }
def FnSpawnsUptoSaid : Prop := fnSpawnsUptoRow.holds Tryz.pinned (OpenSpec.upto fnSpawnsSpec)

/-- 'laws.FnCensus', WHERE WHAT IT READS IS OF BULK AT MOST 1048576: true; the input reads as it did. -/
def fnCensusUptoRow : OpenClaim := { program := "ytgoggapkkefgmaagreat", sum := "f82f76e199f08660dd5e994557387b9700d9711bc209764a0c2069c6cf4a823c", func := "loop.example/g00109/laws.FnCensus", spec := "fnCensus", unfollowed := true, recurses := true, plainKeys := false, apart := false, narrowed := true }
def FnCensusUptoSaid : Prop := fnCensusUptoRow.holds Tryz.pinned (OpenSpec.upto fnCensusSpec)

/-- 'laws.FnApart', WHERE WHAT IT READS IS OF BULK AT MOST 1048576: true; the input reads as it did. -/
def fnApartUptoRow : OpenClaim := { program := "ytgoggapkkefgmaagreat", sum := "f82f76e199f08660dd5e994557387b9700d9711bc209764a0c2069c6cf4a823c", func := "loop.example/g00109/laws.FnApart", spec := "fnApart", unfollowed := true, recurses := true, plainKeys := false, apart := false, narrowed := true }
def FnApartUptoSaid : Prop := fnApartUptoRow.holds Tryz.pinned (OpenSpec.upto fnApartSpec)

/-- 'laws.FnMoves', WHERE WHAT IT READS IS OF BULK AT MOST 1048576: true; the input reads as it did. -/
def fnMovesUptoRow : OpenClaim := { program := "ytgoggapkkefgmaagreat", sum := "f82f76e199f08660dd5e994557387b9700d9711bc209764a0c2069c6cf4a823c", func := "loop.example/g00109/laws.FnMoves", spec := "fnMoves", unfollowed := true, recurses := true, plainKeys := false, apart := false, narrowed := true }
def FnMovesUptoSaid : Prop := fnMovesUptoRow.holds Tryz.pinned (OpenSpec.upto fnMovesSpec)

/-- 'laws.FnEvicts', WHERE WHAT IT READS IS OF BULK AT MOST 1048576: true; the input reads as it did. -/
def fnEvictsUptoRow : OpenClaim := { program := "ytgoggapkkefgmaagreat", sum := "f82f76e199f08660dd5e994557387b9700d9711bc209764a0c2069c6cf4a823c", func := "loop.example/g00109/laws.FnEvicts", spec := "fnEvicts", unfollowed := true, recurses := true, plainKeys := false, apart := false, narrowed := true }
def FnEvictsUptoSaid : Prop := fnEvictsUptoRow.holds Tryz.pinned (OpenSpec.upto fnEvictsSpec)

end Rows
end Go.Proofs.YtgoggapkkefgmaaGreat
