import Derived.Test.YtfegnmbdgdjkgaaGreatProg
import Derived.Lib.TrimByte
import Derived.Shelf.Strings.Trim
import Derived.Lib.Repeat
