-- PRINTED BY print.sh 35421559b90ae4d0a3588c463048766b98c2df88dd9212a6774a882060cdf62d: not written by this session
import Derived.Test.YtpogicakpgpkcaaPRuleTellsx0
import Derived.Test.YtpogicakpgpkcaaPRuleTellsx1
import Derived.Test.YtpogicakpgpkcaaPRuleTellsx2
import Derived.Test.YtpogicakpgpkcaaPRuleTellsx3
import Derived.Test.YtpogicakpgpkcaaPRuleTellsx4
import Derived.Test.YtpogicakpgpkcaaPRuleTellsx5
namespace Go.Proofs.Ytpogicakpgpkcaa.PRuleTells
open Go.RowKit Go.Proofs.YtpogicakpgpkcaaW.PrintWords Go.Proofs.YtpogicakpgpkcaaW.PrintLast Go.Proofs.YtpogicakpgpkcaaW.PrintMore
attribute [local go_sem] max2_int min2_int max_two min_two max_three min_three max_four min_four   -- for this text's walks alone
set_option linter.unusedVariables false
set_option linter.unusedSimpArgs false

end Go.Proofs.Ytpogicakpgpkcaa.PRuleTells
