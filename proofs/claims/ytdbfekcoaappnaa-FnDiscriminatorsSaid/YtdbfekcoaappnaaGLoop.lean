/- Lemmas on the model and on plain lists: a part of the proof. No conditions. -/
import Derived.Test.YtdbfekcoaappnaaGPure
set_option linter.unusedVariables false
namespace Go.G

section
variable {S R α β : Type}

end
end Go.G
