/- The tied card of the law FnExactParseDevice: the row (text Row) and its tie (given). -/
import Derived.Test.YthofcclbkihemaaDoorRowFnExactParseDevice
import Derived.Test.YthofcclbkihemaaDoorTie
import Derived.Test.YthofcclbkihemaaDoorCards
import Derived.SevenTiedAt
namespace Go.Proofs.YthofcclbkihemaaDoor
open Go
/-- The card. -/
theorem fnExactParseDeviceCard_holds : Rows.FnExactParseDeviceCardSaid :=
  Claim7.holds_tied_plain_at .later [] [.data, .data, .data, .data, .pinned] true (true, "5f9076ea3634e295fc353addf9559b944490f31be7f592efecb22e0fac65d948") false
    fnExactParseDevice.proved (fun _ h => by cases h) (by kernel_rfl) (fun _ h => by cases h) fnExactParseDevice_row_tie rfl ⟨rfl, rfl⟩ (by kernel_rfl) rfl
    (fun f fn hf hfn => by
      obtain rfl : f = 5 := Option.some.inj ((show Tryd.prog.funcNamed "loop.example/g03017/laws.FnExactParseDevice" = some 5 by kernel_rfl).symm.trans hf) |>.symm
      obtain rfl : fn = Tryd.f5 := (Option.some.inj (Tryd.func5.symm.trans hfn)).symm
      exact ⟨by kernel_rfl, fun j t ht => by
        have key : (Tryd.f5.params.toList.all fun t => !(Tryd.prog.wantsStandIn t)) = true := by kernel_rfl
        have hm := List.all_eq_true.1 key t (Array.mem_toList_iff.2 (Array.mem_of_getElem? ht))
        have h3 : Tryd.prog.wantsStandIn t = false := by simpa using hm
        exact h3⟩)
    (by kernel_rfl)
#print axioms fnExactParseDeviceCard_holds
end Go.Proofs.YthofcclbkihemaaDoor
