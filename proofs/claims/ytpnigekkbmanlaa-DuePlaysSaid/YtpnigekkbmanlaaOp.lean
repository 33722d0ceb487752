/- A step of a script, in plain terms. No conditions. -/
import Derived.Test.YtpnigekkbmanlaaWt
namespace Go.Proofs.Ytpnigekkbmanlaa
open Sx
/-- a step of a script -/
structure Op7 where
  kind : Int
  wt : Wt
  mark : Int
def Op7.cells (o : Op7) : List Value := [.int .i64 o.kind, .int .i64 o.wt.m.dec, .slice o.wt.m.na o.wt.m.names.length o.wt.m.nc, .slice o.wt.m.la o.wt.m.lens.length o.wt.m.lc, .slice o.wt.m.va o.wt.m.vals.length o.wt.m.vc, .slice o.wt.ba o.wt.bs.length o.wt.bc, .int .i64 o.mark]
theorem op7_len (o : Op7) : o.cells.length = 7 := rfl

end Go.Proofs.Ytpnigekkbmanlaa
