-- Written by a program of this session's: a turned copy of the kit's printer, over hand-proved contracts of some functions. Not trusted: Lean checks it.
import Derived.Test.YtkdfhgilpnohpaaDoorProg
import Derived.Below
import Derived.Deep.Draws
import Derived.Deep.AppendLies
import Derived.Maps.AppendAt
import Derived.OwnWalk
import Derived.Laws.BytesArg
import Derived.Laws.MakeOwn
import Derived.Laws.OwnMore
import Derived.Deep.OwnRows
import Derived.Tactics
import Derived.Lib.ConvBytes
import Derived.Laws.Slices
import Derived.WalkKit
import Derived.KernelRfl
import Derived.RowKit3
import Derived.Deep.LoopGhost
import Derived.Deep.QuietTactic
import Derived.BigQuiet
import Derived.WideLaws
import Derived.Deep.DeepCutAuto
import Derived.Deep.CutBlock
import Derived.Deep.RegionHeld3
import Derived.Laws.Rows
import Derived.Lib.AppendStr
import Derived.ArgAppend
import Derived.Laws.IdiomCopy
import Derived.OrdersHeld
import Derived.Laws.BitsLemmas
import Derived.RowKit
import Derived.Test.YtkdfhgilpnohpaaDoorWWords
import Derived.Test.YtkdfhgilpnohpaaDoorWLast
import Derived.Test.YtkdfhgilpnohpaaDoorWTab
import Derived.Test.YtkdfhgilpnohpaaDoorWQPut
import Derived.Test.YtkdfhgilpnohpaaDoorWApart
import Derived.Test.YtkdfhgilpnohpaaDoorWArr
import Derived.Test.YtkdfhgilpnohpaaDoorWZeros
import Derived.Test.YtkdfhgilpnohpaaDoorWFoot
import Derived.Test.YtkdfhgilpnohpaaDoorWKept
import Derived.Test.YtkdfhgilpnohpaaDoorWShare
import Derived.Test.YtkdfhgilpnohpaaDoorWN
import Derived.Test.YtkdfhgilpnohpaaDoorWFootNe
import Derived.Test.YtkdfhgilpnohpaaDoorWAt
import Derived.Test.YtkdfhgilpnohpaaDoorWRepsOne
import Derived.Test.YtkdfhgilpnohpaaDoorWNEv
import Derived.Test.YtkdfhgilpnohpaaDoorWMore
namespace Go.Proofs.YtkdfhgilpnohpaaDoor.Sc
open Go.RowKit Go.Proofs.YtkdfhgilpnohpaaDoorW.PrintWords Go.Proofs.YtkdfhgilpnohpaaDoorW.PrintLast Go.Proofs.YtkdfhgilpnohpaaDoorW.PrintMore
attribute [local go_sem] max2_int min2_int max_two min_two max_three min_three max_four min_four   -- for this text's walks alone
set_option linter.unusedVariables false
set_option linter.unusedSimpArgs false



def errW : Option Int → Value
 | none => .nilIface
 | some c => .iface 0 (.int .i64 c)
theorem errW_none : errW none = .nilIface := rfl
theorem errW_some (c : Int) : errW (some c) = .iface 0 (.int .i64 c) := rfl

theorem info3 : (Tryd.prog.info? 3).map (fun i => (i.zero, i.size, i.bytes)) = some (some (.int .i64 0), 1, 8) := by kernel_rfl
theorem info5 : (Tryd.prog.info? 5).map (fun i => (i.zero, i.size, i.bytes)) = some (some (.int .u8 0), 1, 1) := by kernel_rfl
theorem info9 : (Tryd.prog.info? 9).map (fun i => (i.zero, i.size, i.bytes)) = some (some (.string ⟨#[]⟩), 1, 16) := by kernel_rfl
-- the values' own types

end Go.Proofs.YtkdfhgilpnohpaaDoor.Sc
