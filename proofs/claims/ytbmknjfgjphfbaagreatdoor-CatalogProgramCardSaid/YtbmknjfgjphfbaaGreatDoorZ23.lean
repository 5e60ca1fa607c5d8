import Derived.Test.YtbmknjfgjphfbaaGreatDoorZ16
import Derived.Test.YtbmknjfgjphfbaaGreatDoorZ22
set_option linter.all false
namespace Go.Proofs.YtbmknjfgjphfbaaGreatDoor
open Proofs.Tryz RowKit Maps WideMaps ChangeMaps
def EqSaid (o:Bool) (w:À) (e:Ending) (w':À):Prop:=e=.returned (.bool o)∧Below w.heap.size w w'
end Go.Proofs.YtbmknjfgjphfbaaGreatDoor
