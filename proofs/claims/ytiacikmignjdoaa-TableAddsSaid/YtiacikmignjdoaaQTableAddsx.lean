/- Written out by a program of this session over the translation: the machine's side of rota/rotalaw16.TableAdds. Conditions: each theorem's own. -/
import Derived.Test.YtiacikmignjdoaaQTableAddsx0
import Derived.Test.YtiacikmignjdoaaQTableAddsx1
import Derived.Test.YtiacikmignjdoaaQTableAddsx2
namespace Go.Proofs.Ytiacikmignjdoaa.QTableAdds
open Go.RowKit Go.Proofs.YtiacikmignjdoaaW.PrintWords Go.Proofs.YtiacikmignjdoaaW.PrintLast Go.Proofs.YtiacikmignjdoaaW.PrintMore
attribute [local go_sem] max2_int min2_int max_two min_two max_three min_three max_four min_four   -- for this text's walks alone
set_option linter.unusedVariables false
set_option linter.unusedSimpArgs false

end Go.Proofs.Ytiacikmignjdoaa.QTableAdds
