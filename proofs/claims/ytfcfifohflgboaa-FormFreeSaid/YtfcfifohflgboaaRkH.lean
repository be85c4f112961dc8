/- RankRises, walked. -/
import Derived.Test.YtfcfifohflgboaaRkG
set_option linter.unusedVariables false
set_option linter.unusedSimpArgs false
namespace Go.Proofs.Ytfcfifohflgboaa.Am
open Go Go.RowKit
set_option maxRecDepth 100000
set_option maxHeartbeats 40000000





end Go.Proofs.Ytfcfifohflgboaa.Am
