/- The plain law, under the row's name. -/
import Derived.Test.YtacajonkkfmibaaHistLawP
namespace Go.Proofs.Ytacajonkkfmibaa.Pure
theorem HistOpers : Go.Proofs.Ytacajonkkfmibaa.PHistOpers.deadwoodlaw11_HistOpers.Pure := Go.Proofs.Ytacajonkkfmibaa.HistLawP.pure_law
end Go.Proofs.Ytacajonkkfmibaa.Pure
