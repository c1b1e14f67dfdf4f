/- Written by the print program of the kit (turned a little) over the translation of this seat: plain Lean functions for the Go functions, and that each call does what its function says. -/
import Derived.Test.YtmimhnmaggkmmaaProg
import Derived.Below
import Derived.Deep.Draws
import Derived.Deep.AppendLies
import Derived.Maps.AppendAt
import Derived.OwnWalk
import Derived.Laws.BytesArg
import Derived.Laws.MakeOwn
import Derived.Laws.OwnMore
import Derived.Deep.OwnRows
import Derived.Tactics
import Derived.Lib.ConvBytes
import Derived.Laws.Slices
import Derived.WalkKit
import Derived.KernelRfl
import Derived.RowKit3
import Derived.Deep.LoopGhost
import Derived.Deep.QuietTactic
import Derived.BigQuiet
import Derived.WideLaws
import Derived.Deep.DeepCutAuto
import Derived.Deep.CutBlock
import Derived.Deep.RegionHeld3
import Derived.Laws.Rows
import Derived.Lib.AppendStr
import Derived.ArgAppend
import Derived.Laws.IdiomCopy
import Derived.OrdersHeld
import Derived.Laws.BitsLemmas
import Derived.RowKit
import Derived.Test.YtmimhnmaggkmmaaWWords
import Derived.Test.YtmimhnmaggkmmaaWLast
import Derived.Test.YtmimhnmaggkmmaaWTab
import Derived.Test.YtmimhnmaggkmmaaWFour
import Derived.Test.YtmimhnmaggkmmaaWQPut
import Derived.Test.YtmimhnmaggkmmaaWApart
import Derived.Test.YtmimhnmaggkmmaaWArr
import Derived.Test.YtmimhnmaggkmmaaWZeros
import Derived.Test.YtmimhnmaggkmmaaWFoot
import Derived.Test.YtmimhnmaggkmmaaWKept
import Derived.Test.YtmimhnmaggkmmaaWShare
import Derived.Test.YtmimhnmaggkmmaaWN
import Derived.Test.YtmimhnmaggkmmaaWFootNe
import Derived.Test.YtmimhnmaggkmmaaWAt
import Derived.Test.YtmimhnmaggkmmaaWEqStruct
import Derived.Test.YtmimhnmaggkmmaaWRepsOne
import Derived.Test.YtmimhnmaggkmmaaWInv
import Derived.Test.YtmimhnmaggkmmaaWInvWords
import Derived.Test.YtmimhnmaggkmmaaWGuard
import Derived.Test.YtmimhnmaggkmmaaWNEv
import Derived.Test.YtmimhnmaggkmmaaWMore
namespace Go.Proofs.Ytmimhnmaggkmmaa.PAll
open Go.RowKit Go.Proofs.YtmimhnmaggkmmaaW.PrintWords Go.Proofs.YtmimhnmaggkmmaaW.PrintLast Go.Proofs.YtmimhnmaggkmmaaW.PrintMore
attribute [local go_sem] max2_int min2_int max_two min_two max_three min_three max_four min_four   -- for this text's walks alone
set_option linter.unusedVariables false
set_option linter.unusedSimpArgs false



def errW : Option Int → Value
  | none => .nilIface
  | some c => .iface 0 (.int .i64 c)
theorem errW_none : errW none = .nilIface := rfl
theorem errW_some (c : Int) : errW (some c) = .iface 0 (.int .i64 c) := rfl

theorem info2 : (Try.prog.info? 2).map (fun i => (i.zero, i.size, i.bytes)) = some (some (.int .i64 0), 1, 8) := by kernel_rfl
theorem info5 : (Try.prog.info? 5).map (fun i => (i.zero, i.size, i.bytes)) = some (some (.int .u8 0), 1, 1) := by kernel_rfl
-- the values' own types

end Go.Proofs.Ytmimhnmaggkmmaa.PAll
