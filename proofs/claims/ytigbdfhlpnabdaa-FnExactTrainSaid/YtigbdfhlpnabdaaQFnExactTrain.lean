/- The law FnExactTrain: the program's Train and the reference's make the same sequence; a plain calculation, done by the kernel. -/
import Derived.Test.YtigbdfhlpnabdaaMFnExactTrainx2
import Derived.KernelRfl
namespace Go.Proofs.Ytigbdfhlpnabdaa.Pure
open Go.Proofs.Ytigbdfhlpnabdaa.MFnExactTrain
theorem FnExactTrain : laws_FnExactTrain.Pure := ⟨120, by kernel_rfl⟩
end Go.Proofs.Ytigbdfhlpnabdaa.Pure
