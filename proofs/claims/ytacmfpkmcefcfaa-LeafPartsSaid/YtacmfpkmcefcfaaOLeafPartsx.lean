-- WRITTEN BY ownprint.py, a program of this session, over functions that were proved by hand (Lean checks it)
import Derived.Test.YtacmfpkmcefcfaaOLeafPartsx0
import Derived.Test.YtacmfpkmcefcfaaOLeafPartsx1
import Derived.Test.YtacmfpkmcefcfaaOLeafPartsx2
namespace Go.Proofs.Ytacmfpkmcefcfaa.OLeafParts
open Go.RowKit Go.Proofs.YtacmfpkmcefcfaaW.PrintWords Go.Proofs.YtacmfpkmcefcfaaW.PrintLast Go.Proofs.YtacmfpkmcefcfaaW.PrintMore
attribute [local go_sem] max2_int min2_int max_two min_two max_three min_three max_four min_four   -- for this text's walks alone
set_option linter.unusedVariables false
set_option linter.unusedSimpArgs false

end Go.Proofs.Ytacmfpkmcefcfaa.OLeafParts
