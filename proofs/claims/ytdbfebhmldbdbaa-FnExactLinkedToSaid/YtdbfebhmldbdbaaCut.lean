/-
  Words for cuts around regions that draw. No program.
-/
import Derived.Test.YtdbfebhmldbdbaaFilt
import Derived.Tactics
import Derived.Tactics2
import Derived.WalkKit
import Derived.Deep.RegionHeld3
import Derived.Deep.DeepCutAuto
namespace Go.Proofs.Ytdbfebhmldbdbaa
theorem cut_end : True := trivial
end Go.Proofs.Ytdbfebhmldbdbaa
