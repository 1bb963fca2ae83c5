/- sync.Mutex in this program: the numbers of its functions and types (checked by the kernel). -/
import Derived.Test.YthfnldjldfkmnaaCopies
import Derived.Conc.MuLone
namespace Go.Proofs.Ythfnldjldfkmnaa
open Go.RowKit
set_option linter.unusedVariables false
abbrev muLink : Go.Conc.Locks.MuLink := { lock := 174, unlock := 175, ilock := 190, iunlock := 191, lockSlow := 199, unlockSlow := 202, disable := 195, enable := 197, acquire := 198, relMerge := 200, cas32 := 196, add32 := 201, tMutex := 181, tIMutex := 179, tPMutex := 224, tPIMutex := 226, tPI32 := 228, tUP := 230, tNoCopy := 176, tU32 := 177 }
theorem muLib : Go.Conc.Locks.MuLib Try.prog muLink :=
  ⟨Try.func174, Try.func175, Try.func190, Try.func191, Try.func195, Try.func197, Try.func198, Try.func200, Try.func196, Try.func201, Try.underlying179, Try.runUnderlying179, Try.sizeOf179, Try.isAgg179, Try.zeroValue179, Try.underlying181, Try.runUnderlying181, Try.sizeOf181, Try.isAgg181, Try.zeroValue181, Try.underlying224, Try.runUnderlying224, Try.sizeOf224, Try.isAgg224, Try.zeroValue224, Try.underlying226, Try.runUnderlying226, Try.sizeOf226, Try.isAgg226, Try.zeroValue226, Try.underlying228, Try.runUnderlying228, Try.sizeOf228, Try.isAgg228, Try.zeroValue228, Try.underlying230, Try.runUnderlying230, Try.sizeOf230, Try.isAgg230, Try.zeroValue230, Try.underlying176, Try.runUnderlying176, Try.sizeOf176, Try.isAgg176, Try.zeroValue176, Try.underlying21, Try.runUnderlying21, Try.sizeOf21, Try.isAgg21, Try.zeroValue21, (by kernel_rfl)⟩
end Go.Proofs.Ythfnldjldfkmnaa
