/-
  Words for cuts around regions that draw. No program.
-/
import Derived.Test.YthgppfbepfgelaaFilt
import Derived.Tactics
import Derived.Tactics2
import Derived.WalkKit
import Derived.Deep.RegionHeld3
import Derived.Deep.DeepCutAuto
namespace Go.Proofs.Ythgppfbepfgelaa
theorem cut_end : True := trivial
end Go.Proofs.Ythgppfbepfgelaa
