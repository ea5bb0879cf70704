-- PRINTED BY print.sh 35421559b90ae4d0a3588c463048766b98c2df88dd9212a6774a882060cdf62d: not written by this session
import Derived.Test.YtfipgpfmlkfkfaaDoorPPauseTellsx0
import Derived.Test.YtfipgpfmlkfkfaaDoorPPauseTellsx1
import Derived.Test.YtfipgpfmlkfkfaaDoorPPauseTellsx2
import Derived.Test.YtfipgpfmlkfkfaaDoorPPauseTellsx3
namespace Go.Proofs.YtfipgpfmlkfkfaaDoor.PPauseTells
open Go.RowKit Go.Proofs.YtfipgpfmlkfkfaaDoorW.PrintWords Go.Proofs.YtfipgpfmlkfkfaaDoorW.PrintLast Go.Proofs.YtfipgpfmlkfkfaaDoorW.PrintMore
attribute [local go_sem] max2_int min2_int max_two min_two max_three min_three max_four min_four   -- for this text's walks alone
set_option linter.unusedVariables false
set_option linter.unusedSimpArgs false

end Go.Proofs.YtfipgpfmlkfkfaaDoor.PPauseTells
