/- The laws' own test of a code's length, in the seats of lights. -/
import Derived.Test.YtjlaidjogladaaaDoorM1
namespace Go.Proofs.YtjlaidjogladaaaDoor
open Go.RowKit

set_option maxHeartbeats 400000 in
theorem l_rBig (A : Option Addr) (c n : Nat) (w : World) : Calls Tryd.prog 4 #[.slice A n c] w fun e w' => e = .returned (.bool (decide ((65536 : Int) < (n : Int)))) ∧ w = w' := by
  go_enter Tryd.func4, Tryd.ntmps4
  go_wp2
  go_ret
  exact ⟨rfl, rfl⟩
end Go.Proofs.YtjlaidjogladaaaDoor
