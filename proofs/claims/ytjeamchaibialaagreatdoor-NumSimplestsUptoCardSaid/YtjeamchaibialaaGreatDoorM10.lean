/- Joined: Says -/
import Derived.Test.YtjeamchaibialaaGreatDoorM3
set_option linter.unusedVariables false
set_option linter.unusedSimpArgs false
/- What a law's walk answers, and its errors' numbers. -/
namespace Go.Proofs.YtjeamchaibialaaGreatDoor.SaysLaw
open Go.RowKit Go.Proofs.YtjeamchaibialaaGreatDoorW.PrintWords Go.Proofs.YtjeamchaibialaaGreatDoorW.PrintLast Go.Proofs.YtjeamchaibialaaGreatDoorW.PrintMore

set_option maxRecDepth 100000 in
theorem no_calls (z : Int) (h0 : 0 ≤ z) (h1 : z ≤ 3) (w : World) :
    Calls Tryz.prog 9 #[.int .i64 z] w fun e w' => e = .returned (.int .i64 z) ∧ w' = w := by
  have hw : IntKind.i64.wrap z = z := IntWalk.i64_in _ (by omega)
  go_enter Tryz.func9, Tryz.ntmps9
  go_wp2_with fail
  go_ret
  exact ⟨rfl, rfl⟩
def Says (b : Bool) (w : World) (e : Ending) (w' : World) : Prop := e = .returned (.bool b) ∧ Below w.heap.size w w'
end Go.Proofs.YtjeamchaibialaaGreatDoor.SaysLaw
