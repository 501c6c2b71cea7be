/-
  The law FnExactConstants returns true: every exported constant of the program has the value that the specification gives. No condition.
-/
import Derived.Test.YthcojdecfajnkaaPFnExactConstantsx1
namespace Go.Proofs.Ythcojdecfajnkaa.Pure
open Go.RowKit Go.Proofs.Ythcojdecfajnkaa.PFnExactConstants Go.Proofs.YthcojdecfajnkaaW.PrintWords Go.Proofs.YthcojdecfajnkaaW.PrintLast

/-- The printed function answers true. -/
theorem FnExactConstants : laws_FnExactConstants.Pure := rfl

end Go.Proofs.Ythcojdecfajnkaa.Pure
