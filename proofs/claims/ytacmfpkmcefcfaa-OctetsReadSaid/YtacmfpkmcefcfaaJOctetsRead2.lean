/- Parts of the proof for OctetsRead: Rep. -/
import Derived.Shelf.Strings.Builder1
import Derived.Shelf.Strings.Builder2
import Derived.Shelf.Strings.BuilderF
import Derived.Shelf.Strings.Prefix
import Derived.Shelf.Bits.Mul64
import Derived.Shelf.Strings.Repeat
import Derived.Test.YtacmfpkmcefcfaaProg
import Derived.Test.YtacmfpkmcefcfaaJOctetsRead1

