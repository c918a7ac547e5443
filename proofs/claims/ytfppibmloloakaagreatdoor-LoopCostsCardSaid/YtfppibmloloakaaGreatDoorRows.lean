/-
  NARROWER THAN 'FOR EVERY INPUT', by the rows' own cells (each row's printed sentence says how): LoopLimits: laid · LoopChecks: laid · LoopInstances: laid · LoopCosts: laid · LoopParallels: laid · LoopDepends: laid.
  DERIVED. THE GIVEN ROWS OF THIS SEAT. 6 by the template 'for every input the law returns true; each argument reads behind the call as it read before'; 0 by the template 'total and deterministic' (their statements: YtfppibmloloakaaGreatDoorTotals.lean).
  GIVEN WITH THE SEED: the statements are not yours to turn. If you find one false, say at which input.
  Laid BY PROGRAM, IN A SANDBOX (cutbox-rows.mjs): the forced cells as the released guide's own fill.sh prints them over the translation ad92fa47c9195dc0… (all of the seat's roots in one cut). By AI agents, Wed Nov 11 2026. No macro, syntax, notation, axiom, sorry.
-/
import Derived.Test.YtfppibmloloakaaGreatDoorChecked
import GoSem.PinnedTables
import GoSem.Claim
import GoSem.ClaimJoined
import GoSem.ClaimMapViews
import Derived.JoinedTies
import Derived.KernelRfl
namespace Go.Proofs.YtfppibmloloakaaGreatDoor
/- THE CELL 'sum', in the pinned program and in every row, IS THE sha256 OF THE DUMP (.gsa) THAT YtfppibmloloakaaGreatDoorProg.lean LOADS. Nothing in Lean hashes anything: it is a label: what it is worth is what the hold of that sum in a sandbox is worth. -/
noncomputable def Tryz.pinned : Pinned := { name := "ytfppibmloloakaagreatdoor", sum := "ad92fa47c9195dc08b5892f2994427b6b05f7257b23a1d6f225184f2b8ecc479", checked := Tryz.checked }
namespace Rows
def none {H : Type} : Left H := { results := [], args := [] }

/- WHAT THE LISTED PACKAGE-LEVEL VARIABLES READ AS WHEN THE CALL BEGINS. Each datum BY PROGRAM (the guide's laid-datum.mjs) off the statement by which the dump's own 'gosem.cut.vars' lays the variable. In a bare row this is a premise. The card (YtfppibmloloakaaGreatDoorCards.lean) ties it to the program's text. -/
def laid_unicode_utf8_acceptRanges {H : Type} : DataW H := .agg [.agg [.lit (.int .u8 128), .lit (.int .u8 191)], .agg [.lit (.int .u8 160), .lit (.int .u8 191)], .agg [.lit (.int .u8 128), .lit (.int .u8 159)], .agg [.lit (.int .u8 144), .lit (.int .u8 191)], .agg [.lit (.int .u8 128), .lit (.int .u8 143)], .agg [.lit (.int .u8 0), .lit (.int .u8 0)], .agg [.lit (.int .u8 0), .lit (.int .u8 0)], .agg [.lit (.int .u8 0), .lit (.int .u8 0)], .agg [.lit (.int .u8 0), .lit (.int .u8 0)], .agg [.lit (.int .u8 0), .lit (.int .u8 0)], .agg [.lit (.int .u8 0), .lit (.int .u8 0)], .agg [.lit (.int .u8 0), .lit (.int .u8 0)], .agg [.lit (.int .u8 0), .lit (.int .u8 0)], .agg [.lit (.int .u8 0), .lit (.int .u8 0)], .agg [.lit (.int .u8 0), .lit (.int .u8 0)], .agg [.lit (.int .u8 0), .lit (.int .u8 0)]]
/-- One of Go's own tables, pinned by name: the form's constant. -/
def laid_unicode_utf8_first : DataW Unit := Go.Pinned.utf8First

/-- 'weftlaw2.LoopLimits': WHATEVER THE INPUT: true; the input reads as it did. -/
def loopLimitsSpec : ChangeSpec := { name := "loopLimits", fn := fun _ => fun
  | [d] => { results := [.lit (.bool true)], args := [d] }
  | _ => none }
def loopLimitsRow : OpenClaim := { program := "ytfppibmloloakaagreatdoor", sum := "ad92fa47c9195dc08b5892f2994427b6b05f7257b23a1d6f225184f2b8ecc479", func := "weftworks/weftlaw2.LoopLimits", spec := "loopLimits", inPlace := ["internal/bytealg.IndexByteString", "internal/bytealg.IndexString"], unfollowed := true, recurses := true, named := ["unicode/utf8.first", "unicode/utf8.acceptRanges", "internal/bytealg.MaxLen"], plainKeys := false, apart := false, laid := [("unicode/utf8.acceptRanges", laid_unicode_utf8_acceptRanges), ("unicode/utf8.first", laid_unicode_utf8_first)] }
def LoopLimitsSaid : Prop := loopLimitsRow.holds Tryz.pinned (OpenSpec.ofChange loopLimitsSpec)

/-- ITS FALSE NEIGHBOUR: 'it returns false'. Refute it at one input. -/
def loopLimitsWrong : ChangeSpec := { name := "loopLimits", fn := fun _ => fun
  | [d] => { results := [.lit (.bool false)], args := [d] }
  | _ => none }
def LoopLimitsWrongFalsely : Prop := loopLimitsRow.holds Tryz.pinned (OpenSpec.ofChange loopLimitsWrong)

/-- 'weftlaw2.LoopChecks': WHATEVER THE INPUT: true; the input reads as it did. -/
def loopChecksSpec : ChangeSpec := { name := "loopChecks", fn := fun _ => fun
  | [d] => { results := [.lit (.bool true)], args := [d] }
  | _ => none }
def loopChecksRow : OpenClaim := { program := "ytfppibmloloakaagreatdoor", sum := "ad92fa47c9195dc08b5892f2994427b6b05f7257b23a1d6f225184f2b8ecc479", func := "weftworks/weftlaw2.LoopChecks", spec := "loopChecks", inPlace := ["internal/bytealg.IndexByteString", "internal/bytealg.IndexString"], unfollowed := true, recurses := true, named := ["unicode/utf8.first", "unicode/utf8.acceptRanges", "internal/bytealg.MaxLen"], plainKeys := false, apart := false, laid := [("unicode/utf8.acceptRanges", laid_unicode_utf8_acceptRanges), ("unicode/utf8.first", laid_unicode_utf8_first)] }
def LoopChecksSaid : Prop := loopChecksRow.holds Tryz.pinned (OpenSpec.ofChange loopChecksSpec)

/-- ITS FALSE NEIGHBOUR: 'it returns false'. Refute it at one input. -/
def loopChecksWrong : ChangeSpec := { name := "loopChecks", fn := fun _ => fun
  | [d] => { results := [.lit (.bool false)], args := [d] }
  | _ => none }
def LoopChecksWrongFalsely : Prop := loopChecksRow.holds Tryz.pinned (OpenSpec.ofChange loopChecksWrong)

/-- 'weftlaw2.LoopInstances': WHATEVER THE INPUT: true; the input reads as it did. -/
def loopInstancesSpec : ChangeSpec := { name := "loopInstances", fn := fun _ => fun
  | [d] => { results := [.lit (.bool true)], args := [d] }
  | _ => none }
def loopInstancesRow : OpenClaim := { program := "ytfppibmloloakaagreatdoor", sum := "ad92fa47c9195dc08b5892f2994427b6b05f7257b23a1d6f225184f2b8ecc479", func := "weftworks/weftlaw2.LoopInstances", spec := "loopInstances", inPlace := ["internal/bytealg.IndexByteString", "internal/bytealg.IndexString"], unfollowed := true, recurses := true, named := ["unicode/utf8.first", "unicode/utf8.acceptRanges", "internal/bytealg.MaxLen"], plainKeys := false, apart := false, laid := [("unicode/utf8.acceptRanges", laid_unicode_utf8_acceptRanges), ("unicode/utf8.first", laid_unicode_utf8_first)] }
def LoopInstancesSaid : Prop := loopInstancesRow.holds Tryz.pinned (OpenSpec.ofChange loopInstancesSpec)

/-- ITS FALSE NEIGHBOUR: 'it returns false'. Refute it at one input. -/
def loopInstancesWrong : ChangeSpec := { name := "loopInstances", fn := fun _ => fun
  | [d] => { results := [.lit (.bool false)], args := [d] }
  | _ => none }
def LoopInstancesWrongFalsely : Prop := loopInstancesRow.holds Tryz.pinned (OpenSpec.ofChange loopInstancesWrong)

/-- 'weftlaw2.LoopCosts': WHATEVER THE INPUT: true; the input reads as it did. -/
def loopCostsSpec : ChangeSpec := { name := "loopCosts", fn := fun _ => fun
  | [d] => { results := [.lit (.bool true)], args := [d] }
  | _ => none }
def loopCostsRow : OpenClaim := { program := "ytfppibmloloakaagreatdoor", sum := "ad92fa47c9195dc08b5892f2994427b6b05f7257b23a1d6f225184f2b8ecc479", func := "weftworks/weftlaw2.LoopCosts", spec := "loopCosts", inPlace := ["internal/bytealg.IndexByteString", "internal/bytealg.IndexString"], unfollowed := true, recurses := true, named := ["unicode/utf8.first", "unicode/utf8.acceptRanges", "internal/bytealg.MaxLen"], plainKeys := false, apart := false, laid := [("unicode/utf8.acceptRanges", laid_unicode_utf8_acceptRanges), ("unicode/utf8.first", laid_unicode_utf8_first)] }
def LoopCostsSaid : Prop := loopCostsRow.holds Tryz.pinned (OpenSpec.ofChange loopCostsSpec)

/-- ITS FALSE NEIGHBOUR: 'it returns false'. Refute it at one input. -/
def loopCostsWrong : ChangeSpec := { name := "loopCosts", fn := fun _ => fun
  | [d] => { results := [.lit (.bool false)], args := [d] }
  | _ => none }
def LoopCostsWrongFalsely : Prop := loopCostsRow.holds Tryz.pinned (OpenSpec.ofChange loopCostsWrong)

/-- 'weftlaw2.LoopParallels': WHATEVER THE INPUT: true; the input reads as it did. -/
def loopParallelsSpec : ChangeSpec := { name := "loopParallels", fn := fun _ => fun
  | [d] => { results := [.lit (.bool true)], args := [d] }
  | _ => none }
def loopParallelsRow : OpenClaim := { program := "ytfppibmloloakaagreatdoor", sum := "ad92fa47c9195dc08b5892f2994427b6b05f7257b23a1d6f225184f2b8ecc479", func := "weftworks/weftlaw2.LoopParallels", spec := "loopParallels", inPlace := ["internal/bytealg.IndexByteString", "internal/bytealg.IndexString"], unfollowed := true, recurses := true, named := ["unicode/utf8.first", "unicode/utf8.acceptRanges", "internal/bytealg.MaxLen"], plainKeys := false, apart := false, laid := [("unicode/utf8.acceptRanges", laid_unicode_utf8_acceptRanges), ("unicode/utf8.first", laid_unicode_utf8_first)] }
def LoopParallelsSaid : Prop := loopParallelsRow.holds Tryz.pinned (OpenSpec.ofChange loopParallelsSpec)

/-- ITS FALSE NEIGHBOUR: 'it returns false'. Refute it at one input. -/
def loopParallelsWrong : ChangeSpec := { name := "loopParallels", fn := fun _ => fun
  | [d] => { results := [.lit (.bool false)], args := [d] }
  | _ => none }
def LoopParallelsWrongFalsely : Prop := loopParallelsRow.holds Tryz.pinned (OpenSpec.ofChange loopParallelsWrong)

/-- 'weftlaw2.LoopDepends': WHATEVER THE INPUT: true; the input reads as it did. -/
def loopDependsSpec : ChangeSpec := { name := "loopDepends", fn := fun _ => fun
  | [d] => { results := [.lit (.bool true)], args := [d] }
  | _ => none }
def loopDependsRow : OpenClaim := { program := "ytfppibmloloakaagreatdoor", sum := "ad92fa47c9195dc08b5892f2994427b6b05f7257b23a1d6f225184f2b8ecc479", func := "weftworks/weftlaw2.LoopDepends", spec := "loopDepends", inPlace := ["internal/bytealg.IndexByteString", "internal/bytealg.IndexString"], unfollowed := true, recurses := true, named := ["unicode/utf8.first", "unicode/utf8.acceptRanges", "internal/bytealg.MaxLen"], plainKeys := false, apart := false, laid := [("unicode/utf8.acceptRanges", laid_unicode_utf8_acceptRanges), ("unicode/utf8.first", laid_unicode_utf8_first)] }
def LoopDependsSaid : Prop := loopDependsRow.holds Tryz.pinned (OpenSpec.ofChange loopDependsSpec)

/-- ITS FALSE NEIGHBOUR: 'it returns false'. Refute it at one input. -/
def loopDependsWrong : ChangeSpec := { name := "loopDepends", fn := fun _ => fun
  | [d] => { results := [.lit (.bool false)], args := [d] }
  | _ => none }
def LoopDependsWrongFalsely : Prop := loopDependsRow.holds Tryz.pinned (OpenSpec.ofChange loopDependsWrong)

/- THE SECOND FORM. 'bulk': how many values and letters a reading holds, each counted each time it is reached (what is shared counts as often as it is met; a slice's spare places count too). A statement '..UptoSaid' is the law's where the arguments, and the package variables that the reading takes, are together of bulk at most 1048576: NARROWER than '..Said'. Prove '..Said' where nothing that the law and all that it calls make is longer than what came in: it says more and counts as full. Else prove '..UptoSaid'. A law counts once. -/
mutual
def uptoBulk {H : Type} : DataW H → Nat
  | .lit (.string bytes) => bytes.length + 1
  | .lit _ => 1
  | .nil => 1
  | .ptr d => uptoBulk d + 1
  | .slice elems spare => uptoBulkAll elems + uptoBulkAll spare + 1
  | .agg parts => uptoBulkAll parts + 1
  | .iface _ d => uptoBulk d + 1
  | .map entries => uptoBulkEntries entries + 1
  | .held _ => 1
def uptoBulkAll {H : Type} : List (DataW H) → Nat
  | [] => 0
  | d :: r => uptoBulk d + uptoBulkAll r
def uptoBulkEntries {H : Type} : List (Lit × DataW H) → Nat
  | [] => 0
  | x :: r => uptoBulkEntry x + uptoBulkEntries r
def uptoBulkEntry {H : Type} : Lit × DataW H → Nat
  | (.string bytes, d) => bytes.length + uptoBulk d + 1
  | (_, d) => uptoBulk d + 1
 end
def uptoSmall : (H : Type) → List (DataW H) → Bool := fun _ ds => decide (uptoBulkAll ds ≤ 1048576)
def OpenSpec.upto (s : _root_.Go.ChangeSpec) : _root_.Go.OpenSpec := { _root_.Go.OpenSpec.ofChange s with cond := some uptoSmall }

/-- 'weftlaw2.LoopLimits', WHERE WHAT IT READS IS OF BULK AT MOST 1048576: true; the input reads as it did. -/
def loopLimitsUptoRow : OpenClaim := { program := "ytfppibmloloakaagreatdoor", sum := "ad92fa47c9195dc08b5892f2994427b6b05f7257b23a1d6f225184f2b8ecc479", func := "weftworks/weftlaw2.LoopLimits", spec := "loopLimits", inPlace := ["internal/bytealg.IndexByteString", "internal/bytealg.IndexString"], unfollowed := true, recurses := true, named := ["unicode/utf8.first", "unicode/utf8.acceptRanges", "internal/bytealg.MaxLen"], plainKeys := false, apart := false, laid := [("unicode/utf8.acceptRanges", laid_unicode_utf8_acceptRanges), ("unicode/utf8.first", laid_unicode_utf8_first)], narrowed := true }
def LoopLimitsUptoSaid : Prop := loopLimitsUptoRow.holds Tryz.pinned (OpenSpec.upto loopLimitsSpec)

/-- 'weftlaw2.LoopChecks', WHERE WHAT IT READS IS OF BULK AT MOST 1048576: true; the input reads as it did. -/
def loopChecksUptoRow : OpenClaim := { program := "ytfppibmloloakaagreatdoor", sum := "ad92fa47c9195dc08b5892f2994427b6b05f7257b23a1d6f225184f2b8ecc479", func := "weftworks/weftlaw2.LoopChecks", spec := "loopChecks", inPlace := ["internal/bytealg.IndexByteString", "internal/bytealg.IndexString"], unfollowed := true, recurses := true, named := ["unicode/utf8.first", "unicode/utf8.acceptRanges", "internal/bytealg.MaxLen"], plainKeys := false, apart := false, laid := [("unicode/utf8.acceptRanges", laid_unicode_utf8_acceptRanges), ("unicode/utf8.first", laid_unicode_utf8_first)], narrowed := true }
def LoopChecksUptoSaid : Prop := loopChecksUptoRow.holds Tryz.pinned (OpenSpec.upto loopChecksSpec)

/-- 'weftlaw2.LoopInstances', WHERE WHAT IT READS IS OF BULK AT MOST 1048576: true; the input reads as it did. -/
def loopInstancesUptoRow : OpenClaim := { program := "ytfppibmloloakaagreatdoor", sum := "ad92fa47c9195dc08b5892f2994427b6b05f7257b23a1d6f225184f2b8ecc479", func := "weftworks/weftlaw2.LoopInstances", spec := "loopInstances", inPlace := ["internal/bytealg.IndexByteString", "internal/bytealg.IndexString"], unfollowed := true, recurses := true, named := ["unicode/utf8.first", "unicode/utf8.acceptRanges", "internal/bytealg.MaxLen"], plainKeys := false, apart := false, laid := [("unicode/utf8.acceptRanges", laid_unicode_utf8_acceptRanges), ("unicode/utf8.first", laid_unicode_utf8_first)], narrowed := true }
def LoopInstancesUptoSaid : Prop := loopInstancesUptoRow.holds Tryz.pinned (OpenSpec.upto loopInstancesSpec)

/-- 'weftlaw2.LoopCosts', WHERE WHAT IT READS IS OF BULK AT MOST 1048576: true; the input reads as it did. -/
def loopCostsUptoRow : OpenClaim := { program := "ytfppibmloloakaagreatdoor", sum := "ad92fa47c9195dc08b5892f2994427b6b05f7257b23a1d6f225184f2b8ecc479", func := "weftworks/weftlaw2.LoopCosts", spec := "loopCosts", inPlace := ["internal/bytealg.IndexByteString", "internal/bytealg.IndexString"], unfollowed := true, recurses := true, named := ["unicode/utf8.first", "unicode/utf8.acceptRanges", "internal/bytealg.MaxLen"], plainKeys := false, apart := false, laid := [("unicode/utf8.acceptRanges", laid_unicode_utf8_acceptRanges), ("unicode/utf8.first", laid_unicode_utf8_first)], narrowed := true }
def LoopCostsUptoSaid : Prop := loopCostsUptoRow.holds Tryz.pinned (OpenSpec.upto loopCostsSpec)

/-- 'weftlaw2.LoopParallels', WHERE WHAT IT READS IS OF BULK AT MOST 1048576: true; the input reads as it did. -/
def loopParallelsUptoRow : OpenClaim := { program := "ytfppibmloloakaagreatdoor", sum := "ad92fa47c9195dc08b5892f2994427b6b05f7257b23a1d6f225184f2b8ecc479", func := "weftworks/weftlaw2.LoopParallels", spec := "loopParallels", inPlace := ["internal/bytealg.IndexByteString", "internal/bytealg.IndexString"], unfollowed := true, recurses := true, named := ["unicode/utf8.first", "unicode/utf8.acceptRanges", "internal/bytealg.MaxLen"], plainKeys := false, apart := false, laid := [("unicode/utf8.acceptRanges", laid_unicode_utf8_acceptRanges), ("unicode/utf8.first", laid_unicode_utf8_first)], narrowed := true }
def LoopParallelsUptoSaid : Prop := loopParallelsUptoRow.holds Tryz.pinned (OpenSpec.upto loopParallelsSpec)

/-- 'weftlaw2.LoopDepends', WHERE WHAT IT READS IS OF BULK AT MOST 1048576: true; the input reads as it did. -/
def loopDependsUptoRow : OpenClaim := { program := "ytfppibmloloakaagreatdoor", sum := "ad92fa47c9195dc08b5892f2994427b6b05f7257b23a1d6f225184f2b8ecc479", func := "weftworks/weftlaw2.LoopDepends", spec := "loopDepends", inPlace := ["internal/bytealg.IndexByteString", "internal/bytealg.IndexString"], unfollowed := true, recurses := true, named := ["unicode/utf8.first", "unicode/utf8.acceptRanges", "internal/bytealg.MaxLen"], plainKeys := false, apart := false, laid := [("unicode/utf8.acceptRanges", laid_unicode_utf8_acceptRanges), ("unicode/utf8.first", laid_unicode_utf8_first)], narrowed := true }
def LoopDependsUptoSaid : Prop := loopDependsUptoRow.holds Tryz.pinned (OpenSpec.upto loopDependsSpec)

end Rows
end Go.Proofs.YtfppibmloloakaaGreatDoor
