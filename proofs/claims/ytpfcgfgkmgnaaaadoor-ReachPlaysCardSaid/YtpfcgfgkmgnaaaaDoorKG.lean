/-
  The contracts of the engine's Turn (the delta swap) and of the reference's Sets.
-/
import Derived.Test.YtpfcgfgkmgnaaaaDoorKF
namespace Go.Proofs.YtpfcgfgkmgnaaaaDoor
open Go
attribute [local irreducible] G GO GQ Fn pt init exs pur sat

/-! ## Turn -/
end Go.Proofs.YtpfcgfgkmgnaaaaDoor
