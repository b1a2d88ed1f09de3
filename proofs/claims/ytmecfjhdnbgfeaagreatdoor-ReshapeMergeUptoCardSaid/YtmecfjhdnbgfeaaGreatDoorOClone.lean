/- slices.Clone at a row of the program's, as the machine sees it: the row that comes back is the call's own. -/
import Derived.WalkKit
import Derived.Deep.LoopGhost
import Derived.Lib.Walk
import Derived.Lib.SliceRun
import Derived.Shelf.RegionOpenPlain
import Derived.Test.YtmecfjhdnbgfeaaGreatDoorA4
import Derived.Test.YtmecfjhdnbgfeaaGreatDoorProg
set_option linter.all false
namespace Go.Proofs.YtmecfjhdnbgfeaaGreatDoor
open Go.RowKit Go.Lib Go.Am
