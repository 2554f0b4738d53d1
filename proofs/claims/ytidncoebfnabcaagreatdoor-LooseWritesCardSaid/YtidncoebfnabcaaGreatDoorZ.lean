/- LooseWrites: an object that is written is read back, whatever files stand beside it. The tied card, with no condition beyond the row.. -/
import Derived.Test.YtidncoebfnabcaaGreatDoorW
import Derived.Test.YtidncoebfnabcaaGreatDoorTie
import Derived.Test.YtidncoebfnabcaaGreatDoorCards
import Derived.SevenTiedAt
import Derived.Test.YtidncoebfnabcaaGreatDoorP2
set_option linter.unusedVariables false
set_option linter.unusedSimpArgs false
namespace Go.Proofs.YtidncoebfnabcaaGreatDoor
open Go
theorem card_holds : Rows.LooseWritesCardSaid :=
  Claim7.holds_tied_plain_at .later [] [.data, .data, .data, .data, .sentinel, .sentinel, .pinned] true (true, "30de5a903c6471c2fb5f303b1dc7eea0399d2cdbf1fc61d89458a366ae3f0f8b") true
    (looseWrites_holds pure_law) (fun _ h => by cases h) (by kernel_rfl) (fun _ h => by cases h) looseWrites_row_tie rfl ⟨rfl, rfl⟩ (by kernel_rfl) rfl
    (fun f fn hf hfn => by
      obtain rfl : f = 3 := Option.some.inj ((show Tryz.prog.funcNamed "cartulary/cartularylaw09.LooseWrites" = some 3 by kernel_rfl).symm.trans hf) |>.symm
      obtain rfl : fn = Tryz.f3 := (Option.some.inj (Tryz.func3.symm.trans hfn)).symm
      exact ⟨by kernel_rfl, fun j t ht => by
        rw [Tryz.params3] at ht
        have h3 : t = 23 ∨ t = 24 := by
          rcases j with _ | _ | j
          · simp at ht; exact .inl ht.symm
          · simp at ht; exact .inr ht.symm
          · simp at ht
        rcases h3 with rfl | rfl
        · exact (show Tryz.prog.wantsStandIn 23 = false by kernel_rfl)
        · exact (show Tryz.prog.wantsStandIn 24 = false by kernel_rfl)⟩)
    (by kernel_rfl)
end Go.Proofs.YtidncoebfnabcaaGreatDoor
