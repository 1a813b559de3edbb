/- Score's ParseBound, Add and Within at given words and floats. -/
import Derived.Test.YtgbldjbkapaclaaDoorFlP
import Derived.Test.YtgbldjbkapaclaaDoorFlG
import Derived.Test.YtgbldjbkapaclaaDoorFlF
import Derived.Handy
import Derived.Laws.ResultCell
/- What the seat needs besides. -/
namespace Go.Proofs.YtgbldjbkapaclaaDoor.fl
open Go.ChangeShapes Go.WideShapes Go.ChangeAt Go.RowKit Ieee
set_option linter.unusedVariables false
set_option linter.unusedSimpArgs false
end Go.Proofs.YtgbldjbkapaclaaDoor.fl
/- Small walks for the law ScoreKnown: math's Copysign, NaN and Ldexp at given floats; score's ParseBound, Add and Within at given ones. -/
namespace Go.Proofs.YtgbldjbkapaclaaDoor.fl
open Go.ChangeShapes Go.WideShapes Go.ChangeAt Go.RowKit
set_option linter.unusedVariables false
set_option linter.unusedSimpArgs false
end Go.Proofs.YtgbldjbkapaclaaDoor.fl
/- Score's ParseBound, Add and Within at given words and floats. -/
namespace Go.Proofs.YtgbldjbkapaclaaDoor.fl
open Go.ChangeShapes Go.WideShapes Go.ChangeAt Go.RowKit
set_option linter.unusedVariables false
set_option linter.unusedSimpArgs false
end Go.Proofs.YtgbldjbkapaclaaDoor.fl
