/- 'SemKnown' answers true, by the kernel. -/
import Derived.Test.YtlpdekocilhciaaSemIr
import Derived.KernelRfl
namespace Go.V.Sem
open Go Go.V
theorem ev : isYes (callF (fun f => lookT f list) (evalF (fun f => lookT f list) 5000) 3 [] s0) = true := by kernel_rfl
end Go.V.Sem
