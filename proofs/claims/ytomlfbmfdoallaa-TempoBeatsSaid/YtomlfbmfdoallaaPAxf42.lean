-- printed by this session's turned copy of the print (patch_print.py)
import Derived.Test.YtomlfbmfdoallaaPAx0
import Derived.Test.YtomlfbmfdoallaaTe
namespace Go.Proofs.Ytomlfbmfdoallaa.PA
open Go.RowKit Go.Proofs.YtomlfbmfdoallaaW.PrintWords Go.Proofs.YtomlfbmfdoallaaW.PrintLast Go.Proofs.YtomlfbmfdoallaaW.PrintMore
attribute [local go_sem] max2_int min2_int max_two min_two max_three min_three max_four min_four   -- for this text's walks alone
set_option linter.unusedVariables false
set_option linter.unusedSimpArgs false

/-! ### tempo_frame: function 42 -/
-- IMPORT Derived.Test.YtomlfbmfdoallaaTe
-- NAMES tempo_frame.f tempo_frame.calls

end Go.Proofs.Ytomlfbmfdoallaa.PA
