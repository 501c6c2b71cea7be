/-
  A number between two bounds, as the program asks it and as the reference does. No condition.
-/
import Derived.Test.YtclnjlnpconjmaaDoorPx1
import Derived.Test.YtclnjlnpconjmaaDoorPx3
import Derived.Test.YtclnjlnpconjmaaDoorPu0
namespace Go.Proofs.YtclnjlnpconjmaaDoor.Pu
open Go.RowKit Go.Proofs.YtclnjlnpconjmaaDoor.P Go.Proofs.YtclnjlnpconjmaaDoorW.PrintWords Go.Proofs.YtclnjlnpconjmaaDoorW.PrintLast Go.Proofs.YtclnjlnpconjmaaDoorW.PrintMore

theorem in_is (a b c : Int) : impl_in.f a b c = some (decide (b ≤ a) && decide (a ≤ c)) := by
  unfold impl_in.f
  by_cases h : b ≤ a <;> simp [h]
theorem l1In_is (a b c : Int) : spec_l1In.f a b c = some (decide (b ≤ a) && decide (a ≤ c)) := by
  unfold spec_l1In.f
  by_cases h : b ≤ a <;> simp [h]
end Go.Proofs.YtclnjlnpconjmaaDoor.Pu
