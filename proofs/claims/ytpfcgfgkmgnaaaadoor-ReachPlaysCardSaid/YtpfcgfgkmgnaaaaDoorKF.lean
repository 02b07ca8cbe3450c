/-
  The contracts of Corner, and of the reference's Corner, Turn and Sets.
-/
import Derived.Test.YtpfcgfgkmgnaaaaDoorKE
namespace Go.Proofs.YtpfcgfgkmgnaaaaDoor
open Go
attribute [local irreducible] G GO GQ Fn pt init exs pur sat

/-! ## The reference's Turn -/
end Go.Proofs.YtpfcgfgkmgnaaaaDoor
