/- The library's structures laid at this program, in plain words. No conditions. -/
import Derived.Test.YtabfkalcjfjkiaaProg
import Derived.Shelf.Lays8
import Derived.KernelRfl
namespace Go.Proofs.Ytabfkalcjfjkiaa.Ext
open Go.Shelf
end Go.Proofs.Ytabfkalcjfjkiaa.Ext
