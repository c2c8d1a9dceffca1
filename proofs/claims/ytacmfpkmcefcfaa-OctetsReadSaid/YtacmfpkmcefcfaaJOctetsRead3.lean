/- Parts of the proof for OctetsRead: Tb. -/
import Derived.Test.YtacmfpkmcefcfaaProg
import Derived.Deep.Draws
import Derived.OwnWalk
import Derived.Tactics
import Derived.WalkKit
import Derived.KernelRfl
import Derived.RowKit3
import Derived.LoopN
import Derived.Handy
import Derived.Test.YtacmfpkmcefcfaaJOctetsRead1

