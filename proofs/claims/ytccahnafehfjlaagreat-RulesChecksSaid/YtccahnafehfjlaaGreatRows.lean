/-
  No cell of these rows narrows 'for every input' (looked for: loops, veiled, ifaces, maps, wideKeys, modest, calm, conditions, laid).
  DERIVED. THE GIVEN ROWS OF THIS SEAT. 4 by the template 'for every input the law returns true; each argument reads behind the call as it read before'; 0 by the template 'total and deterministic' (their statements: YtccahnafehfjlaaGreatTotals.lean).
  GIVEN WITH THE SEED: the statements are not yours to turn. If you find one false, say at which input.
  Laid BY PROGRAM, IN A SANDBOX (cutbox-rows.mjs): the forced cells as the released guide's own fill.sh prints them over the translation 42463ed98c32d8c8… (all of the seat's roots in one cut). By AI agents, Wed Nov 11 2026. No macro, syntax, notation, axiom, sorry.
-/
import Derived.Test.YtccahnafehfjlaaGreatChecked
import GoSem.Claim
import GoSem.ClaimJoined
import GoSem.ClaimMapViews
import Derived.JoinedTies
import Derived.KernelRfl
namespace Go.Proofs.YtccahnafehfjlaaGreat
/- THE CELL 'sum', in the pinned program and in every row, IS THE sha256 OF THE DUMP (.gsa) THAT YtccahnafehfjlaaGreatProg.lean LOADS. Nothing in Lean hashes anything: it is a label: what it is worth is what the hold of that sum in a sandbox is worth. -/
noncomputable def Tryz.pinned : Pinned := { name := "ytccahnafehfjlaagreat", sum := "42463ed98c32d8c8a50d893cdc28b28c2a456755f5c9df9cdf6a236ab9b483e0", checked := Tryz.checked }
namespace Rows
def none {H : Type} : Left H := { results := [], args := [] }

/-- 'mapsheetslaw36.RulesChecks': WHATEVER THE INPUT: true; the input reads as it did. -/
def rulesChecksSpec : ChangeSpec := { name := "rulesChecks", fn := fun _ => fun
  | [d1, d2, d3] => { results := [.lit (.bool true)], args := [d1, d2, d3] }
  | _ => none }
def rulesChecksRow : OpenClaim := { program := "ytccahnafehfjlaagreat", sum := "42463ed98c32d8c8a50d893cdc28b28c2a456755f5c9df9cdf6a236ab9b483e0", func := "mapsheets/mapsheetslaw36.RulesChecks", spec := "rulesChecks", inPlace := ["internal/bytealg.IndexByteString", "internal/bytealg.IndexString"], unfollowed := true, recurses := true, named := ["internal/bytealg.MaxLen", "math/bits.divideError", "math/bits.overflowError"], plainKeys := false, apart := false }
def RulesChecksSaid : Prop := rulesChecksRow.holds Tryz.pinned (OpenSpec.ofChange rulesChecksSpec)

/-- ITS FALSE NEIGHBOUR: 'it returns false'. Refute it at one input. -/
def rulesChecksWrong : ChangeSpec := { name := "rulesChecks", fn := fun _ => fun
  | [d1, d2, d3] => { results := [.lit (.bool false)], args := [d1, d2, d3] }
  | _ => none }
def RulesChecksWrongFalsely : Prop := rulesChecksRow.holds Tryz.pinned (OpenSpec.ofChange rulesChecksWrong)

/-- 'mapsheetslaw36.RulesOrder': WHATEVER THE INPUT: true; the input reads as it did. -/
def rulesOrderSpec : ChangeSpec := { name := "rulesOrder", fn := fun _ => fun
  | [d1, d2] => { results := [.lit (.bool true)], args := [d1, d2] }
  | _ => none }
def rulesOrderRow : OpenClaim := { program := "ytccahnafehfjlaagreat", sum := "42463ed98c32d8c8a50d893cdc28b28c2a456755f5c9df9cdf6a236ab9b483e0", func := "mapsheets/mapsheetslaw36.RulesOrder", spec := "rulesOrder", inPlace := ["internal/bytealg.IndexByteString", "internal/bytealg.IndexString"], unfollowed := true, recurses := true, named := ["internal/bytealg.MaxLen", "math/bits.divideError", "math/bits.overflowError"], plainKeys := false, apart := false }
def RulesOrderSaid : Prop := rulesOrderRow.holds Tryz.pinned (OpenSpec.ofChange rulesOrderSpec)

/-- ITS FALSE NEIGHBOUR: 'it returns false'. Refute it at one input. -/
def rulesOrderWrong : ChangeSpec := { name := "rulesOrder", fn := fun _ => fun
  | [d1, d2] => { results := [.lit (.bool false)], args := [d1, d2] }
  | _ => none }
def RulesOrderWrongFalsely : Prop := rulesOrderRow.holds Tryz.pinned (OpenSpec.ofChange rulesOrderWrong)

/-- 'mapsheetslaw36.RulesGrow': WHATEVER THE INPUT: true; the input reads as it did. -/
def rulesGrowSpec : ChangeSpec := { name := "rulesGrow", fn := fun _ => fun
  | [d1, d2, d3, d4, d5, d6] => { results := [.lit (.bool true)], args := [d1, d2, d3, d4, d5, d6] }
  | _ => none }
def rulesGrowRow : OpenClaim := { program := "ytccahnafehfjlaagreat", sum := "42463ed98c32d8c8a50d893cdc28b28c2a456755f5c9df9cdf6a236ab9b483e0", func := "mapsheets/mapsheetslaw36.RulesGrow", spec := "rulesGrow", inPlace := ["internal/bytealg.IndexByteString", "internal/bytealg.IndexString"], unfollowed := true, recurses := true, named := ["internal/bytealg.MaxLen", "math/bits.divideError", "math/bits.overflowError"], plainKeys := false, apart := false }
def RulesGrowSaid : Prop := rulesGrowRow.holds Tryz.pinned (OpenSpec.ofChange rulesGrowSpec)

/-- ITS FALSE NEIGHBOUR: 'it returns false'. Refute it at one input. -/
def rulesGrowWrong : ChangeSpec := { name := "rulesGrow", fn := fun _ => fun
  | [d1, d2, d3, d4, d5, d6] => { results := [.lit (.bool false)], args := [d1, d2, d3, d4, d5, d6] }
  | _ => none }
def RulesGrowWrongFalsely : Prop := rulesGrowRow.holds Tryz.pinned (OpenSpec.ofChange rulesGrowWrong)

/-- 'mapsheetslaw36.RulesScores': WHATEVER THE INPUT: true; the input reads as it did. -/
def rulesScoresSpec : ChangeSpec := { name := "rulesScores", fn := fun _ => fun
  | [d1, d2] => { results := [.lit (.bool true)], args := [d1, d2] }
  | _ => none }
def rulesScoresRow : OpenClaim := { program := "ytccahnafehfjlaagreat", sum := "42463ed98c32d8c8a50d893cdc28b28c2a456755f5c9df9cdf6a236ab9b483e0", func := "mapsheets/mapsheetslaw36.RulesScores", spec := "rulesScores", inPlace := ["internal/bytealg.IndexByteString", "internal/bytealg.IndexString"], unfollowed := true, recurses := true, named := ["internal/bytealg.MaxLen", "math/bits.divideError", "math/bits.overflowError"], plainKeys := false, apart := false }
def RulesScoresSaid : Prop := rulesScoresRow.holds Tryz.pinned (OpenSpec.ofChange rulesScoresSpec)

/-- ITS FALSE NEIGHBOUR: 'it returns false'. Refute it at one input. -/
def rulesScoresWrong : ChangeSpec := { name := "rulesScores", fn := fun _ => fun
  | [d1, d2] => { results := [.lit (.bool false)], args := [d1, d2] }
  | _ => none }
def RulesScoresWrongFalsely : Prop := rulesScoresRow.holds Tryz.pinned (OpenSpec.ofChange rulesScoresWrong)

/- THE SECOND FORM. 'bulk': how many values and letters a reading holds, each counted each time it is reached (what is shared counts as often as it is met; a slice's spare places count too). A statement '..UptoSaid' is the law's where the arguments, and the package variables that the reading takes, are together of bulk at most 1048576: NARROWER than '..Said'. Prove '..Said' where nothing that the law and all that it calls make is longer than what came in: it says more and counts as full. Else prove '..UptoSaid'. A law counts once. -/
mutual
def uptoBulk {H : Type} : DataW H → Nat
  | .lit (.string bytes) => bytes.length + 1
  | .lit _ => 1
  | .nil => 1
  | .ptr d => uptoBulk d + 1
  | .slice elems spare => uptoBulkAll elems + uptoBulkAll spare + 1
  | .agg parts => uptoBulkAll parts + 1
  | .iface _ d => uptoBulk d + 1
  | .map entries => uptoBulkEntries entries + 1
  | .held _ => 1
def uptoBulkAll {H : Type} : List (DataW H) → Nat
  | [] => 0
  | d :: r => uptoBulk d + uptoBulkAll r
def uptoBulkEntries {H : Type} : List (Lit × DataW H) → Nat
  | [] => 0
  | x :: r => uptoBulkEntry x + uptoBulkEntries r
def uptoBulkEntry {H : Type} : Lit × DataW H → Nat
  | (.string bytes, d) => bytes.length + uptoBulk d + 1
  | (_, d) => uptoBulk d + 1
 end
def uptoSmall : (H : Type) → List (DataW H) → Bool := fun _ ds => decide (uptoBulkAll ds ≤ 1048576)
def OpenSpec.upto (s : _root_.Go.ChangeSpec) : _root_.Go.OpenSpec := { _root_.Go.OpenSpec.ofChange s with cond := some uptoSmall }

/-- 'mapsheetslaw36.RulesChecks', WHERE WHAT IT READS IS OF BULK AT MOST 1048576: true; the input reads as it did. -/
def rulesChecksUptoRow : OpenClaim := { program := "ytccahnafehfjlaagreat", sum := "42463ed98c32d8c8a50d893cdc28b28c2a456755f5c9df9cdf6a236ab9b483e0", func := "mapsheets/mapsheetslaw36.RulesChecks", spec := "rulesChecks", inPlace := ["internal/bytealg.IndexByteString", "internal/bytealg.IndexString"], unfollowed := true, recurses := true, named := ["internal/bytealg.MaxLen", "math/bits.divideError", "math/bits.overflowError"], plainKeys := false, apart := false, narrowed := true }
def RulesChecksUptoSaid : Prop := rulesChecksUptoRow.holds Tryz.pinned (OpenSpec.upto rulesChecksSpec)

/-- 'mapsheetslaw36.RulesOrder', WHERE WHAT IT READS IS OF BULK AT MOST 1048576: true; the input reads as it did. -/
def rulesOrderUptoRow : OpenClaim := { program := "ytccahnafehfjlaagreat", sum := "42463ed98c32d8c8a50d893cdc28b28c2a456755f5c9df9cdf6a236ab9b483e0", func := "mapsheets/mapsheetslaw36.RulesOrder", spec := "rulesOrder", inPlace := ["internal/bytealg.IndexByteString", "internal/bytealg.IndexString"], unfollowed := true, recurses := true, named := ["internal/bytealg.MaxLen", "math/bits.divideError", "math/bits.overflowError"], plainKeys := false, apart := false, narrowed := true }
def RulesOrderUptoSaid : Prop := rulesOrderUptoRow.holds Tryz.pinned (OpenSpec.upto rulesOrderSpec)

/-- 'mapsheetslaw36.RulesGrow', WHERE WHAT IT READS IS OF BULK AT MOST 1048576: true; the input reads as it did. -/
def rulesGrowUptoRow : OpenClaim := { program := "ytccahnafehfjlaagreat", sum := "42463ed98c32d8c8a50d893cdc28b28c2a456755f5c9df9cdf6a236ab9b483e0", func := "mapsheets/mapsheetslaw36.RulesGrow", spec := "rulesGrow", inPlace := ["internal/bytealg.IndexByteString", "internal/bytealg.IndexString"], unfollowed := true, recurses := true, named := ["internal/bytealg.MaxLen", "math/bits.divideError", "math/bits.overflowError"], plainKeys := false, apart := false, narrowed := true }
def RulesGrowUptoSaid : Prop := rulesGrowUptoRow.holds Tryz.pinned (OpenSpec.upto rulesGrowSpec)

/-- 'mapsheetslaw36.RulesScores', WHERE WHAT IT READS IS OF BULK AT MOST 1048576: true; the input reads as it did. -/
def rulesScoresUptoRow : OpenClaim := { program := "ytccahnafehfjlaagreat", sum := "42463ed98c32d8c8a50d893cdc28b28c2a456755f5c9df9cdf6a236ab9b483e0", func := "mapsheets/mapsheetslaw36.RulesScores", spec := "rulesScores", inPlace := ["internal/bytealg.IndexByteString", "internal/bytealg.IndexString"], unfollowed := true, recurses := true, named := ["internal/bytealg.MaxLen", "math/bits.divideError", "math/bits.overflowError"], plainKeys := false, apart := false, narrowed := true }
def RulesScoresUptoSaid : Prop := rulesScoresUptoRow.holds Tryz.pinned (OpenSpec.upto rulesScoresSpec)

end Rows
end Go.Proofs.YtccahnafehfjlaaGreat
