/-
  The laws BlockRing and BlockTurned.
-/
import Derived.Test.YtpfcgfgkmgnaaaaDoorKD
import Derived.Test.YtpfcgfgkmgnaaaaDoorKK
namespace Go.Proofs.YtpfcgfgkmgnaaaaDoor
open Go
attribute [local irreducible] G GO GQ Fn pt init exs pur sat

/-! ## The plain laws -/
end Go.Proofs.YtpfcgfgkmgnaaaaDoor
