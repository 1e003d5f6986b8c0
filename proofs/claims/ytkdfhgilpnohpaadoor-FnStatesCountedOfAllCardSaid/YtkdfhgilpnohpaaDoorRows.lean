/-
  NARROWER THAN 'FOR EVERY INPUT', by the rows' own cells (each row's printed sentence says how): FnExactCyclesOfLamps: laid · FnWalksMeanOfAll: laid · FnLampsTickOfAll: laid · FnWalksMean: laid · FnStatesCountedOfAll: laid · FnLampsTick: laid · FnStatesCounted: laid · FnBoltsBlockOfAll: laid.
  DERIVED. THE GIVEN ROWS OF THIS SEAT. 8 by the template 'for every input the law returns true; each argument reads behind the call as it read before'; 0 by the template 'total and deterministic' (their statements: YtkdfhgilpnohpaaDoorTotals.lean).
  GIVEN WITH THE SEED: the statements are not yours to turn. If you find one false, say at which input.
  Laid BY PROGRAM, IN A SANDBOX (cutbox-rows.mjs): the forced cells as the released guide's own fill.sh prints them over the translation 15a3a7282284c4eb… (all of the seat's roots in one cut). By AI agents, Wed Nov 11 2026. No macro, syntax, notation, axiom, sorry.
-/
import Derived.Test.YtkdfhgilpnohpaaDoorChecked
import GoSem.PinnedTables
import GoSem.Claim
import GoSem.ClaimJoined
import GoSem.ClaimMapViews
import Derived.JoinedTies
import Derived.KernelRfl
namespace Go.Proofs.YtkdfhgilpnohpaaDoor
/- THE CELL 'sum', in the pinned program and in every row, IS THE sha256 OF THE DUMP (.gsa) THAT YtkdfhgilpnohpaaDoorProg.lean LOADS. Nothing in Lean hashes anything: it is a label: what it is worth is what the hold of that sum in a sandbox is worth. -/
noncomputable def Tryd.pinned : Pinned := { name := "ytkdfhgilpnohpaadoor", sum := "15a3a7282284c4eb719daf1201f35de0820b1674b58faa6c323f78ec953eee31", checked := Tryd.checked }
namespace Rows
def none {H : Type} : Left H := { results := [], args := [] }

/- WHAT THE LISTED PACKAGE-LEVEL VARIABLES READ AS WHEN THE CALL BEGINS. Each datum BY PROGRAM (the guide's laid-datum.mjs) off the statement by which the dump's own 'gosem.cut.vars' lays the variable. In a bare row this is a premise. The card (YtkdfhgilpnohpaaDoorCards.lean) ties it to the program's text. -/
def laid_unicode_utf8_acceptRanges {H : Type} : DataW H := .agg [.agg [.lit (.int .u8 128), .lit (.int .u8 191)], .agg [.lit (.int .u8 160), .lit (.int .u8 191)], .agg [.lit (.int .u8 128), .lit (.int .u8 159)], .agg [.lit (.int .u8 144), .lit (.int .u8 191)], .agg [.lit (.int .u8 128), .lit (.int .u8 143)], .agg [.lit (.int .u8 0), .lit (.int .u8 0)], .agg [.lit (.int .u8 0), .lit (.int .u8 0)], .agg [.lit (.int .u8 0), .lit (.int .u8 0)], .agg [.lit (.int .u8 0), .lit (.int .u8 0)], .agg [.lit (.int .u8 0), .lit (.int .u8 0)], .agg [.lit (.int .u8 0), .lit (.int .u8 0)], .agg [.lit (.int .u8 0), .lit (.int .u8 0)], .agg [.lit (.int .u8 0), .lit (.int .u8 0)], .agg [.lit (.int .u8 0), .lit (.int .u8 0)], .agg [.lit (.int .u8 0), .lit (.int .u8 0)], .agg [.lit (.int .u8 0), .lit (.int .u8 0)]]
/-- One of Go's own tables, pinned by name: the form's constant. -/
def laid_unicode_utf8_first : DataW Unit := Go.Pinned.utf8First

/-- 'laws.FnExactCyclesOfLamps': WHATEVER THE INPUT: true; the input reads as it did. -/
def fnExactCyclesOfLampsSpec : ChangeSpec := { name := "fnExactCyclesOfLamps", fn := fun _ => fun
  | [d] => { results := [.lit (.bool true)], args := [d] }
  | _ => none }
def fnExactCyclesOfLampsRow : OpenClaim := { program := "ytkdfhgilpnohpaadoor", sum := "15a3a7282284c4eb719daf1201f35de0820b1674b58faa6c323f78ec953eee31", func := "loop.example/g01314/laws.FnExactCyclesOfLamps", spec := "fnExactCyclesOfLamps", inPlace := ["internal/bytealg.IndexByteString", "internal/bytealg.IndexString"], unfollowed := true, recurses := true, named := ["unicode/utf8.first", "unicode/utf8.acceptRanges", "internal/bytealg.MaxLen"], apart := false, laid := [("unicode/utf8.acceptRanges", laid_unicode_utf8_acceptRanges), ("unicode/utf8.first", laid_unicode_utf8_first)] }
def FnExactCyclesOfLampsSaid : Prop := fnExactCyclesOfLampsRow.holds Tryd.pinned (OpenSpec.ofChange fnExactCyclesOfLampsSpec)

/-- ITS FALSE NEIGHBOUR: 'it returns false'. Refute it at one input. -/
def fnExactCyclesOfLampsWrong : ChangeSpec := { name := "fnExactCyclesOfLamps", fn := fun _ => fun
  | [d] => { results := [.lit (.bool false)], args := [d] }
  | _ => none }
def FnExactCyclesOfLampsWrongFalsely : Prop := fnExactCyclesOfLampsRow.holds Tryd.pinned (OpenSpec.ofChange fnExactCyclesOfLampsWrong)

/-- 'laws.FnWalksMeanOfAll': WHATEVER THE INPUT: true; the input reads as it did. -/
def fnWalksMeanOfAllSpec : ChangeSpec := { name := "fnWalksMeanOfAll", fn := fun _ => fun
  | [d1, d2, d3, d4, d5, d6, d7, d8] => { results := [.lit (.bool true)], args := [d1, d2, d3, d4, d5, d6, d7, d8] }
  | _ => none }
def fnWalksMeanOfAllRow : OpenClaim := { program := "ytkdfhgilpnohpaadoor", sum := "15a3a7282284c4eb719daf1201f35de0820b1674b58faa6c323f78ec953eee31", func := "loop.example/g01314/laws.FnWalksMeanOfAll", spec := "fnWalksMeanOfAll", inPlace := ["internal/bytealg.IndexByteString", "internal/bytealg.IndexString"], unfollowed := true, recurses := true, named := ["unicode/utf8.first", "unicode/utf8.acceptRanges", "internal/bytealg.MaxLen"], apart := false, laid := [("unicode/utf8.acceptRanges", laid_unicode_utf8_acceptRanges), ("unicode/utf8.first", laid_unicode_utf8_first)] }
def FnWalksMeanOfAllSaid : Prop := fnWalksMeanOfAllRow.holds Tryd.pinned (OpenSpec.ofChange fnWalksMeanOfAllSpec)

/-- ITS FALSE NEIGHBOUR: 'it returns false'. Refute it at one input. -/
def fnWalksMeanOfAllWrong : ChangeSpec := { name := "fnWalksMeanOfAll", fn := fun _ => fun
  | [d1, d2, d3, d4, d5, d6, d7, d8] => { results := [.lit (.bool false)], args := [d1, d2, d3, d4, d5, d6, d7, d8] }
  | _ => none }
def FnWalksMeanOfAllWrongFalsely : Prop := fnWalksMeanOfAllRow.holds Tryd.pinned (OpenSpec.ofChange fnWalksMeanOfAllWrong)

/-- 'laws.FnLampsTickOfAll': WHATEVER THE INPUT: true; the input reads as it did. -/
def fnLampsTickOfAllSpec : ChangeSpec := { name := "fnLampsTickOfAll", fn := fun _ => fun
  | [d1, d2, d3, d4, d5, d6, d7, d8] => { results := [.lit (.bool true)], args := [d1, d2, d3, d4, d5, d6, d7, d8] }
  | _ => none }
def fnLampsTickOfAllRow : OpenClaim := { program := "ytkdfhgilpnohpaadoor", sum := "15a3a7282284c4eb719daf1201f35de0820b1674b58faa6c323f78ec953eee31", func := "loop.example/g01314/laws.FnLampsTickOfAll", spec := "fnLampsTickOfAll", inPlace := ["internal/bytealg.IndexByteString", "internal/bytealg.IndexString"], unfollowed := true, recurses := true, named := ["unicode/utf8.first", "unicode/utf8.acceptRanges", "internal/bytealg.MaxLen"], apart := false, laid := [("unicode/utf8.acceptRanges", laid_unicode_utf8_acceptRanges), ("unicode/utf8.first", laid_unicode_utf8_first)] }
def FnLampsTickOfAllSaid : Prop := fnLampsTickOfAllRow.holds Tryd.pinned (OpenSpec.ofChange fnLampsTickOfAllSpec)

/-- ITS FALSE NEIGHBOUR: 'it returns false'. Refute it at one input. -/
def fnLampsTickOfAllWrong : ChangeSpec := { name := "fnLampsTickOfAll", fn := fun _ => fun
  | [d1, d2, d3, d4, d5, d6, d7, d8] => { results := [.lit (.bool false)], args := [d1, d2, d3, d4, d5, d6, d7, d8] }
  | _ => none }
def FnLampsTickOfAllWrongFalsely : Prop := fnLampsTickOfAllRow.holds Tryd.pinned (OpenSpec.ofChange fnLampsTickOfAllWrong)

/-- 'laws.FnWalksMean': WHATEVER THE INPUT: true; the input reads as it did. -/
def fnWalksMeanSpec : ChangeSpec := { name := "fnWalksMean", fn := fun _ => fun
  | [d1, d2] => { results := [.lit (.bool true)], args := [d1, d2] }
  | _ => none }
def fnWalksMeanRow : OpenClaim := { program := "ytkdfhgilpnohpaadoor", sum := "15a3a7282284c4eb719daf1201f35de0820b1674b58faa6c323f78ec953eee31", func := "loop.example/g01314/laws.FnWalksMean", spec := "fnWalksMean", inPlace := ["internal/bytealg.IndexByteString", "internal/bytealg.IndexString"], unfollowed := true, recurses := true, named := ["unicode/utf8.first", "unicode/utf8.acceptRanges", "internal/bytealg.MaxLen"], apart := false, laid := [("unicode/utf8.acceptRanges", laid_unicode_utf8_acceptRanges), ("unicode/utf8.first", laid_unicode_utf8_first)] }
def FnWalksMeanSaid : Prop := fnWalksMeanRow.holds Tryd.pinned (OpenSpec.ofChange fnWalksMeanSpec)

/-- ITS FALSE NEIGHBOUR: 'it returns false'. Refute it at one input. -/
def fnWalksMeanWrong : ChangeSpec := { name := "fnWalksMean", fn := fun _ => fun
  | [d1, d2] => { results := [.lit (.bool false)], args := [d1, d2] }
  | _ => none }
def FnWalksMeanWrongFalsely : Prop := fnWalksMeanRow.holds Tryd.pinned (OpenSpec.ofChange fnWalksMeanWrong)

/-- 'laws.FnStatesCountedOfAll': WHATEVER THE INPUT: true; the input reads as it did. -/
def fnStatesCountedOfAllSpec : ChangeSpec := { name := "fnStatesCountedOfAll", fn := fun _ => fun
  | [d1, d2, d3, d4, d5] => { results := [.lit (.bool true)], args := [d1, d2, d3, d4, d5] }
  | _ => none }
def fnStatesCountedOfAllRow : OpenClaim := { program := "ytkdfhgilpnohpaadoor", sum := "15a3a7282284c4eb719daf1201f35de0820b1674b58faa6c323f78ec953eee31", func := "loop.example/g01314/laws.FnStatesCountedOfAll", spec := "fnStatesCountedOfAll", inPlace := ["internal/bytealg.IndexByteString", "internal/bytealg.IndexString", "internal/bytealg.CountString"], unfollowed := true, recurses := true, named := ["unicode/utf8.first", "unicode/utf8.acceptRanges", "internal/bytealg.MaxLen"], apart := false, laid := [("unicode/utf8.acceptRanges", laid_unicode_utf8_acceptRanges), ("unicode/utf8.first", laid_unicode_utf8_first)] }
def FnStatesCountedOfAllSaid : Prop := fnStatesCountedOfAllRow.holds Tryd.pinned (OpenSpec.ofChange fnStatesCountedOfAllSpec)

/-- ITS FALSE NEIGHBOUR: 'it returns false'. Refute it at one input. -/
def fnStatesCountedOfAllWrong : ChangeSpec := { name := "fnStatesCountedOfAll", fn := fun _ => fun
  | [d1, d2, d3, d4, d5] => { results := [.lit (.bool false)], args := [d1, d2, d3, d4, d5] }
  | _ => none }
def FnStatesCountedOfAllWrongFalsely : Prop := fnStatesCountedOfAllRow.holds Tryd.pinned (OpenSpec.ofChange fnStatesCountedOfAllWrong)

/-- 'laws.FnLampsTick': WHATEVER THE INPUT: true; the input reads as it did. -/
def fnLampsTickSpec : ChangeSpec := { name := "fnLampsTick", fn := fun _ => fun
  | [d1, d2] => { results := [.lit (.bool true)], args := [d1, d2] }
  | _ => none }
def fnLampsTickRow : OpenClaim := { program := "ytkdfhgilpnohpaadoor", sum := "15a3a7282284c4eb719daf1201f35de0820b1674b58faa6c323f78ec953eee31", func := "loop.example/g01314/laws.FnLampsTick", spec := "fnLampsTick", inPlace := ["internal/bytealg.IndexByteString", "internal/bytealg.IndexString"], unfollowed := true, recurses := true, named := ["unicode/utf8.first", "unicode/utf8.acceptRanges", "internal/bytealg.MaxLen"], apart := false, laid := [("unicode/utf8.acceptRanges", laid_unicode_utf8_acceptRanges), ("unicode/utf8.first", laid_unicode_utf8_first)] }
def FnLampsTickSaid : Prop := fnLampsTickRow.holds Tryd.pinned (OpenSpec.ofChange fnLampsTickSpec)

/-- ITS FALSE NEIGHBOUR: 'it returns false'. Refute it at one input. -/
def fnLampsTickWrong : ChangeSpec := { name := "fnLampsTick", fn := fun _ => fun
  | [d1, d2] => { results := [.lit (.bool false)], args := [d1, d2] }
  | _ => none }
def FnLampsTickWrongFalsely : Prop := fnLampsTickRow.holds Tryd.pinned (OpenSpec.ofChange fnLampsTickWrong)

/-- 'laws.FnStatesCounted': WHATEVER THE INPUT: true; the input reads as it did. -/
def fnStatesCountedSpec : ChangeSpec := { name := "fnStatesCounted", fn := fun _ => fun
  | [d1, d2] => { results := [.lit (.bool true)], args := [d1, d2] }
  | _ => none }
def fnStatesCountedRow : OpenClaim := { program := "ytkdfhgilpnohpaadoor", sum := "15a3a7282284c4eb719daf1201f35de0820b1674b58faa6c323f78ec953eee31", func := "loop.example/g01314/laws.FnStatesCounted", spec := "fnStatesCounted", inPlace := ["internal/bytealg.IndexByteString", "internal/bytealg.IndexString", "internal/bytealg.CountString"], unfollowed := true, recurses := true, named := ["unicode/utf8.first", "unicode/utf8.acceptRanges", "internal/bytealg.MaxLen"], apart := false, laid := [("unicode/utf8.acceptRanges", laid_unicode_utf8_acceptRanges), ("unicode/utf8.first", laid_unicode_utf8_first)] }
def FnStatesCountedSaid : Prop := fnStatesCountedRow.holds Tryd.pinned (OpenSpec.ofChange fnStatesCountedSpec)

/-- ITS FALSE NEIGHBOUR: 'it returns false'. Refute it at one input. -/
def fnStatesCountedWrong : ChangeSpec := { name := "fnStatesCounted", fn := fun _ => fun
  | [d1, d2] => { results := [.lit (.bool false)], args := [d1, d2] }
  | _ => none }
def FnStatesCountedWrongFalsely : Prop := fnStatesCountedRow.holds Tryd.pinned (OpenSpec.ofChange fnStatesCountedWrong)

/-- 'laws.FnBoltsBlockOfAll': WHATEVER THE INPUT: true; the input reads as it did. -/
def fnBoltsBlockOfAllSpec : ChangeSpec := { name := "fnBoltsBlockOfAll", fn := fun _ => fun
  | [d1, d2, d3, d4, d5, d6, d7] => { results := [.lit (.bool true)], args := [d1, d2, d3, d4, d5, d6, d7] }
  | _ => none }
def fnBoltsBlockOfAllRow : OpenClaim := { program := "ytkdfhgilpnohpaadoor", sum := "15a3a7282284c4eb719daf1201f35de0820b1674b58faa6c323f78ec953eee31", func := "loop.example/g01314/laws.FnBoltsBlockOfAll", spec := "fnBoltsBlockOfAll", inPlace := ["internal/bytealg.CountString", "internal/bytealg.IndexByteString", "internal/bytealg.IndexString"], unfollowed := true, recurses := true, named := ["unicode/utf8.first", "unicode/utf8.acceptRanges", "internal/bytealg.MaxLen"], apart := false, laid := [("unicode/utf8.acceptRanges", laid_unicode_utf8_acceptRanges), ("unicode/utf8.first", laid_unicode_utf8_first)] }
def FnBoltsBlockOfAllSaid : Prop := fnBoltsBlockOfAllRow.holds Tryd.pinned (OpenSpec.ofChange fnBoltsBlockOfAllSpec)

/-- ITS FALSE NEIGHBOUR: 'it returns false'. Refute it at one input. -/
def fnBoltsBlockOfAllWrong : ChangeSpec := { name := "fnBoltsBlockOfAll", fn := fun _ => fun
  | [d1, d2, d3, d4, d5, d6, d7] => { results := [.lit (.bool false)], args := [d1, d2, d3, d4, d5, d6, d7] }
  | _ => none }
def FnBoltsBlockOfAllWrongFalsely : Prop := fnBoltsBlockOfAllRow.holds Tryd.pinned (OpenSpec.ofChange fnBoltsBlockOfAllWrong)

/- THE SECOND FORM. 'bulk': how many values and letters a reading holds, each counted each time it is reached (what is shared counts as often as it is met; a slice's spare places count too). A statement '..UptoSaid' is the law's where the arguments, and the package variables that the reading takes, are together of bulk at most 1048576: NARROWER than '..Said'. Prove '..Said' where nothing that the law and all that it calls make is longer than what came in: it says more and counts as full. Else prove '..UptoSaid'. A law counts once. -/
mutual
def uptoBulk {H : Type} : DataW H → Nat
  | .lit (.string bytes) => bytes.length + 1
  | .lit _ => 1
  | .nil => 1
  | .ptr d => uptoBulk d + 1
  | .slice elems spare => uptoBulkAll elems + uptoBulkAll spare + 1
  | .agg parts => uptoBulkAll parts + 1
  | .iface _ d => uptoBulk d + 1
  | .map entries => uptoBulkEntries entries + 1
  | .held _ => 1
def uptoBulkAll {H : Type} : List (DataW H) → Nat
  | [] => 0
  | d :: r => uptoBulk d + uptoBulkAll r
def uptoBulkEntries {H : Type} : List (Lit × DataW H) → Nat
  | [] => 0
  | x :: r => uptoBulkEntry x + uptoBulkEntries r
def uptoBulkEntry {H : Type} : Lit × DataW H → Nat
  | (.string bytes, d) => bytes.length + uptoBulk d + 1
  | (_, d) => uptoBulk d + 1
 end
def uptoSmall : (H : Type) → List (DataW H) → Bool := fun _ ds => decide (uptoBulkAll ds ≤ 1048576)
def OpenSpec.upto (s : _root_.Go.ChangeSpec) : _root_.Go.OpenSpec := { _root_.Go.OpenSpec.ofChange s with cond := some uptoSmall }

/-- 'laws.FnExactCyclesOfLamps', WHERE WHAT IT READS IS OF BULK AT MOST 1048576: true; the input reads as it did. -/
def fnExactCyclesOfLampsUptoRow : OpenClaim := { program := "ytkdfhgilpnohpaadoor", sum := "15a3a7282284c4eb719daf1201f35de0820b1674b58faa6c323f78ec953eee31", func := "loop.example/g01314/laws.FnExactCyclesOfLamps", spec := "fnExactCyclesOfLamps", inPlace := ["internal/bytealg.IndexByteString", "internal/bytealg.IndexString"], unfollowed := true, recurses := true, named := ["unicode/utf8.first", "unicode/utf8.acceptRanges", "internal/bytealg.MaxLen"], apart := false, laid := [("unicode/utf8.acceptRanges", laid_unicode_utf8_acceptRanges), ("unicode/utf8.first", laid_unicode_utf8_first)], narrowed := true }
def FnExactCyclesOfLampsUptoSaid : Prop := fnExactCyclesOfLampsUptoRow.holds Tryd.pinned (OpenSpec.upto fnExactCyclesOfLampsSpec)

/-- 'laws.FnWalksMeanOfAll', WHERE WHAT IT READS IS OF BULK AT MOST 1048576: true; the input reads as it did. -/
def fnWalksMeanOfAllUptoRow : OpenClaim := { program := "ytkdfhgilpnohpaadoor", sum := "15a3a7282284c4eb719daf1201f35de0820b1674b58faa6c323f78ec953eee31", func := "loop.example/g01314/laws.FnWalksMeanOfAll", spec := "fnWalksMeanOfAll", inPlace := ["internal/bytealg.IndexByteString", "internal/bytealg.IndexString"], unfollowed := true, recurses := true, named := ["unicode/utf8.first", "unicode/utf8.acceptRanges", "internal/bytealg.MaxLen"], apart := false, laid := [("unicode/utf8.acceptRanges", laid_unicode_utf8_acceptRanges), ("unicode/utf8.first", laid_unicode_utf8_first)], narrowed := true }
def FnWalksMeanOfAllUptoSaid : Prop := fnWalksMeanOfAllUptoRow.holds Tryd.pinned (OpenSpec.upto fnWalksMeanOfAllSpec)

/-- 'laws.FnLampsTickOfAll', WHERE WHAT IT READS IS OF BULK AT MOST 1048576: true; the input reads as it did. -/
def fnLampsTickOfAllUptoRow : OpenClaim := { program := "ytkdfhgilpnohpaadoor", sum := "15a3a7282284c4eb719daf1201f35de0820b1674b58faa6c323f78ec953eee31", func := "loop.example/g01314/laws.FnLampsTickOfAll", spec := "fnLampsTickOfAll", inPlace := ["internal/bytealg.IndexByteString", "internal/bytealg.IndexString"], unfollowed := true, recurses := true, named := ["unicode/utf8.first", "unicode/utf8.acceptRanges", "internal/bytealg.MaxLen"], apart := false, laid := [("unicode/utf8.acceptRanges", laid_unicode_utf8_acceptRanges), ("unicode/utf8.first", laid_unicode_utf8_first)], narrowed := true }
def FnLampsTickOfAllUptoSaid : Prop := fnLampsTickOfAllUptoRow.holds Tryd.pinned (OpenSpec.upto fnLampsTickOfAllSpec)

/-- 'laws.FnWalksMean', WHERE WHAT IT READS IS OF BULK AT MOST 1048576: true; the input reads as it did. -/
def fnWalksMeanUptoRow : OpenClaim := { program := "ytkdfhgilpnohpaadoor", sum := "15a3a7282284c4eb719daf1201f35de0820b1674b58faa6c323f78ec953eee31", func := "loop.example/g01314/laws.FnWalksMean", spec := "fnWalksMean", inPlace := ["internal/bytealg.IndexByteString", "internal/bytealg.IndexString"], unfollowed := true, recurses := true, named := ["unicode/utf8.first", "unicode/utf8.acceptRanges", "internal/bytealg.MaxLen"], apart := false, laid := [("unicode/utf8.acceptRanges", laid_unicode_utf8_acceptRanges), ("unicode/utf8.first", laid_unicode_utf8_first)], narrowed := true }
def FnWalksMeanUptoSaid : Prop := fnWalksMeanUptoRow.holds Tryd.pinned (OpenSpec.upto fnWalksMeanSpec)

/-- 'laws.FnStatesCountedOfAll', WHERE WHAT IT READS IS OF BULK AT MOST 1048576: true; the input reads as it did. -/
def fnStatesCountedOfAllUptoRow : OpenClaim := { program := "ytkdfhgilpnohpaadoor", sum := "15a3a7282284c4eb719daf1201f35de0820b1674b58faa6c323f78ec953eee31", func := "loop.example/g01314/laws.FnStatesCountedOfAll", spec := "fnStatesCountedOfAll", inPlace := ["internal/bytealg.IndexByteString", "internal/bytealg.IndexString", "internal/bytealg.CountString"], unfollowed := true, recurses := true, named := ["unicode/utf8.first", "unicode/utf8.acceptRanges", "internal/bytealg.MaxLen"], apart := false, laid := [("unicode/utf8.acceptRanges", laid_unicode_utf8_acceptRanges), ("unicode/utf8.first", laid_unicode_utf8_first)], narrowed := true }
def FnStatesCountedOfAllUptoSaid : Prop := fnStatesCountedOfAllUptoRow.holds Tryd.pinned (OpenSpec.upto fnStatesCountedOfAllSpec)

/-- 'laws.FnLampsTick', WHERE WHAT IT READS IS OF BULK AT MOST 1048576: true; the input reads as it did. -/
def fnLampsTickUptoRow : OpenClaim := { program := "ytkdfhgilpnohpaadoor", sum := "15a3a7282284c4eb719daf1201f35de0820b1674b58faa6c323f78ec953eee31", func := "loop.example/g01314/laws.FnLampsTick", spec := "fnLampsTick", inPlace := ["internal/bytealg.IndexByteString", "internal/bytealg.IndexString"], unfollowed := true, recurses := true, named := ["unicode/utf8.first", "unicode/utf8.acceptRanges", "internal/bytealg.MaxLen"], apart := false, laid := [("unicode/utf8.acceptRanges", laid_unicode_utf8_acceptRanges), ("unicode/utf8.first", laid_unicode_utf8_first)], narrowed := true }
def FnLampsTickUptoSaid : Prop := fnLampsTickUptoRow.holds Tryd.pinned (OpenSpec.upto fnLampsTickSpec)

/-- 'laws.FnStatesCounted', WHERE WHAT IT READS IS OF BULK AT MOST 1048576: true; the input reads as it did. -/
def fnStatesCountedUptoRow : OpenClaim := { program := "ytkdfhgilpnohpaadoor", sum := "15a3a7282284c4eb719daf1201f35de0820b1674b58faa6c323f78ec953eee31", func := "loop.example/g01314/laws.FnStatesCounted", spec := "fnStatesCounted", inPlace := ["internal/bytealg.IndexByteString", "internal/bytealg.IndexString", "internal/bytealg.CountString"], unfollowed := true, recurses := true, named := ["unicode/utf8.first", "unicode/utf8.acceptRanges", "internal/bytealg.MaxLen"], apart := false, laid := [("unicode/utf8.acceptRanges", laid_unicode_utf8_acceptRanges), ("unicode/utf8.first", laid_unicode_utf8_first)], narrowed := true }
def FnStatesCountedUptoSaid : Prop := fnStatesCountedUptoRow.holds Tryd.pinned (OpenSpec.upto fnStatesCountedSpec)

/-- 'laws.FnBoltsBlockOfAll', WHERE WHAT IT READS IS OF BULK AT MOST 1048576: true; the input reads as it did. -/
def fnBoltsBlockOfAllUptoRow : OpenClaim := { program := "ytkdfhgilpnohpaadoor", sum := "15a3a7282284c4eb719daf1201f35de0820b1674b58faa6c323f78ec953eee31", func := "loop.example/g01314/laws.FnBoltsBlockOfAll", spec := "fnBoltsBlockOfAll", inPlace := ["internal/bytealg.CountString", "internal/bytealg.IndexByteString", "internal/bytealg.IndexString"], unfollowed := true, recurses := true, named := ["unicode/utf8.first", "unicode/utf8.acceptRanges", "internal/bytealg.MaxLen"], apart := false, laid := [("unicode/utf8.acceptRanges", laid_unicode_utf8_acceptRanges), ("unicode/utf8.first", laid_unicode_utf8_first)], narrowed := true }
def FnBoltsBlockOfAllUptoSaid : Prop := fnBoltsBlockOfAllUptoRow.holds Tryd.pinned (OpenSpec.upto fnBoltsBlockOfAllSpec)

end Rows
end Go.Proofs.YtkdfhgilpnohpaaDoor
