-- Laid by a program of this session (the print, changed: wip/pp.py). Not trusted: Lean checks it.
import Derived.Test.YtnhoadmgoaenpaaPSegWritesx0
import Derived.Test.YtnhoadmgoaenpaaPSegWritesx1
import Derived.Test.YtnhoadmgoaenpaaPSegWritesx2
import Derived.Test.YtnhoadmgoaenpaaPSegWritesx3
import Derived.Test.YtnhoadmgoaenpaaPSegWritesx4
import Derived.Test.YtnhoadmgoaenpaaPSegWritesx5
import Derived.Test.YtnhoadmgoaenpaaPSegWritesx6
import Derived.Test.YtnhoadmgoaenpaaPSegWritesx7
import Derived.Test.YtnhoadmgoaenpaaPSegWritesx8
import Derived.Test.YtnhoadmgoaenpaaPSegWritesx9
import Derived.Test.YtnhoadmgoaenpaaPSegWritesx10
import Derived.Test.YtnhoadmgoaenpaaPSegWritesx11
import Derived.Test.YtnhoadmgoaenpaaPSegWritesx12
import Derived.Test.YtnhoadmgoaenpaaPSegWritesx13
import Derived.Test.YtnhoadmgoaenpaaPSegWritesx14
import Derived.Test.YtnhoadmgoaenpaaPSegWritesx15
import Derived.Test.YtnhoadmgoaenpaaPSegWritesx16
import Derived.Test.YtnhoadmgoaenpaaPSegWritesx17
namespace Go.Proofs.Ytnhoadmgoaenpaa.PSegWrites
open Go.RowKit Go.Proofs.YtnhoadmgoaenpaaW.PrintWords Go.Proofs.YtnhoadmgoaenpaaW.PrintLast Go.Proofs.YtnhoadmgoaenpaaW.PrintMore
attribute [local go_sem] max2_int min2_int max_two min_two max_three min_three max_four min_four max_five min_five max_six min_six max_seven min_seven   -- for this text's walks alone
set_option linter.unusedVariables false
set_option linter.unusedSimpArgs false

end Go.Proofs.Ytnhoadmgoaenpaa.PSegWrites
