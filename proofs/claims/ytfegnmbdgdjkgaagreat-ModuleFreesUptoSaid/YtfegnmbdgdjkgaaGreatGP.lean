/- qparse.shape: what it asks of a node, by class of operator (printed by gen36.py). -/
import Derived.Test.YtfegnmbdgdjkgaaGreatGI
import Derived.Test.YtfegnmbdgdjkgaaGreatGJ
import Derived.Deep.WholeRow
namespace Go.Proofs.YtfegnmbdgdjkgaaGreat
open Go.RowKit

end Go.Proofs.YtfegnmbdgdjkgaaGreat

/- qparse.shape: what it asks of a node, by class of operator (printed by gen36.py). -/
namespace Go.Proofs.YtfegnmbdgdjkgaaGreat
open Go.RowKit

end Go.Proofs.YtfegnmbdgdjkgaaGreat

/- qparse.shape: what it asks of a node, by class of operator (printed by gen36.py). -/
namespace Go.Proofs.YtfegnmbdgdjkgaaGreat
open Go.RowKit

end Go.Proofs.YtfegnmbdgdjkgaaGreat

/- qparse.shape: what it asks of a node, by class of operator (printed by gen36.py). -/
namespace Go.Proofs.YtfegnmbdgdjkgaaGreat
open Go.RowKit

end Go.Proofs.YtfegnmbdgdjkgaaGreat

/- qparse.shape: what it asks of a node, by class of operator (printed by gen36.py). -/
namespace Go.Proofs.YtfegnmbdgdjkgaaGreat
open Go.RowKit

end Go.Proofs.YtfegnmbdgdjkgaaGreat

/- qparse.shape: what it asks of a node, by class of operator (printed by gen36.py). -/
namespace Go.Proofs.YtfegnmbdgdjkgaaGreat
open Go.RowKit

end Go.Proofs.YtfegnmbdgdjkgaaGreat

/- qparse.shape: what it asks of a node, by class of operator (printed by gen36.py). -/
namespace Go.Proofs.YtfegnmbdgdjkgaaGreat
open Go.RowKit

end Go.Proofs.YtfegnmbdgdjkgaaGreat

/- qparse.shape: what it asks of a node, by class of operator (printed by gen36.py). -/
namespace Go.Proofs.YtfegnmbdgdjkgaaGreat
open Go.RowKit

end Go.Proofs.YtfegnmbdgdjkgaaGreat
