/- Part 2. -/
import Derived.StillTail
import Derived.Deep.Quiet
namespace Go.Proofs.YtpfkagghooihfaaGreatDoor
set_option linter.unusedSimpArgs false
set_option linter.unusedVariables false
section
section
variable {P:Program}{C:World→Prop}{l:List Oper}{n:Nat}
end
end
end Go.Proofs.YtpfkagghooihfaaGreatDoor
