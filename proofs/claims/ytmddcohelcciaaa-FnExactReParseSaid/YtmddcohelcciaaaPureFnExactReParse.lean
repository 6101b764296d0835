/- FnExactReParse: a text is read alike on both sides. -/
import Derived.Test.YtmddcohelcciaaaLFnExactReParsePf
namespace Go.Proofs.Ytmddcohelcciaaa.Pure
theorem FnExactReParse : PFnExactReParse.H.PureReParse := PFnExactReParse.H.pure_ReParse
end Go.Proofs.Ytmddcohelcciaaa.Pure
