/- A part of the proof of the given statement; no condition beyond it. -/
import Derived.Test.YtmgpeibjcdchnaaGreatDoorE3
import Derived.SevenTiedAt
import Derived.Test.YtmgpeibjcdchnaaGreatDoorCards
namespace Go.Proofs.YtmgpeibjcdchnaaGreatDoor
open Go
set_option maxRecDepth 100000
theorem cf0 : Rows.sessionNilRow.wfByText (OpenSpec.ofChange Rows.sessionNilSpec) = true := by kernel_rfl
theorem cf1 : Tryz.prog.mainIs = some (true, "710be1968aab7e5073ae700ecdcf9b76341300a7544b676a7a42a888ca660d81".toList) := by kernel_rfl
theorem cf2 : true = Tryz.prog.looks [] := by kernel_rfl
theorem cf3 : false = Rows.sessionNilRow.goesBy Tryz.prog := by kernel_rfl
theorem cf4 : Tryz.prog.funcNamed "pollard/pollardlaw30.SessionNil" = some 3 := by kernel_rfl
theorem cf5 : ([9, 9, 3].all fun u => !Tryz.prog.wantsStandIn u) = true := by kernel_rfl
theorem cf6 : Tryz.f3.isInstance Tryz.prog Rows.sessionNilRow.origin Rows.sessionNilRow.targs := of_decide_eq_true (by kernel_rfl)
theorem cf7 : Tryz.f3.isWrapper Tryz.prog Rows.sessionNilRow.wrapper Rows.sessionNilRow.mainSum := by
  unfold Func.isWrapper
  first
    | (rw [if_pos (by decide +kernel)]; kernel_rfl)
    | (rw [if_neg (by decide +kernel)]; exact ⟨rfl, rfl⟩)
end Go.Proofs.YtmgpeibjcdchnaaGreatDoor
