import Derived.Test.YtiocgkggegahhaaQRulOk
namespace Go.Proofs.Ytiocgkggegahhaa.Pure
theorem FnRulOk : P.laws_FnRulOk.Pure := P.laws_FnRulOk.pure
end Go.Proofs.Ytiocgkggegahhaa.Pure
