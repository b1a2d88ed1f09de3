/- slices.Clone at a row of the program's, as the machine sees it: the contract. -/
import Derived.Test.YtmecfjhdnbgfeaaGreatDoorOClone
import Derived.Test.YtmecfjhdnbgfeaaGreatDoorOLibS
set_option linter.all false
namespace Go.Proofs.YtmecfjhdnbgfeaaGreatDoor
open Go.RowKit Go.Am
