/- SessionNil's tied card: whatever the two texts and the number, the law answers true and the arguments read as before. No condition. -/
import Derived.Test.YtmgpeibjcdchnaaGreatDoorL
import Derived.Test.YtmgpeibjcdchnaaGreatDoorF
import Derived.Test.YtmgpeibjcdchnaaGreatDoorG
import Derived.Test.YtmgpeibjcdchnaaGreatDoorCards
import Derived.Test.YtmgpeibjcdchnaaGreatDoorTie
namespace Go.Proofs.YtmgpeibjcdchnaaGreatDoor
open Go
theorem said : Rows.SessionNilSaid :=
  OpenClaim.holds_of_wide 3 Tryz.f3 rfl rfl rfl rfl rfl rfl rfl ⟨rfl, rfl, rfl, rfl, rfl⟩ rfl rfl rfl rfl rfl cf4 Tryz.func3 joined cf6 cf7
    (fun os started H enc _ => lifted os started H enc)

theorem card : Rows.SessionNilCardSaid :=
  Claim7.holds_tied_plain_at .later [] [.data, .data, .data, .data, .sentinel, .sentinel, .pinned] true (true, "710be1968aab7e5073ae700ecdcf9b76341300a7544b676a7a42a888ca660d81") true
    said (fun _ h => by cases h) cf0 (fun _ h => by cases h) sessionNil_row_tie rfl ⟨rfl, rfl⟩ cf1 rfl
    (fun f fn hf hfn => by
      obtain rfl : f = 3 := Option.some.inj (cf4.symm.trans hf) |>.symm
      obtain rfl : fn = Tryz.f3 := (Option.some.inj (Tryz.func3.symm.trans hfn)).symm
      exact ⟨cf2, fun j t ht => by
        rw [Tryz.params3] at ht
        have hm : t ∈ [9, 9, 3] := by simpa using Array.mem_of_getElem? ht
        exact (show Tryz.prog.wantsStandIn t = false by simpa using List.all_eq_true.1 cf5 t hm)⟩)
    cf3
end Go.Proofs.YtmgpeibjcdchnaaGreatDoor
