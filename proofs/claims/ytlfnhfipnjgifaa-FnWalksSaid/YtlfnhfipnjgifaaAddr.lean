/- Contracts of AddrPage and AddrCell. No condition. -/
import Derived.Test.YtlfnhfipnjgifaaPure
import Derived.Test.YtlfnhfipnjgifaaChecked
import Derived.WalkKit
import Derived.ProofKit
import Derived.Handy
namespace Go.Proofs.Ytlfnhfipnjgifaa
open Go.RowKit
set_option linter.unusedVariables false
set_option maxHeartbeats 1000000

def addrPage (x : Int) : Int := if x < 0 then -1 else x / 4
def addrCell (x : Int) : Int := if x < 0 then -1 else x % 4
theorem sAddrPage_c (x : Int) (hx : x ≤ 9223372036854775807) (w : World) : Calls Try.prog 71 #[.int .i64 x] w fun e w' => e = .returned (.int .i64 (addrPage x)) ∧ w = w' := by
  by_cases h : x < 0
  · go_enter Try.func71, Try.ntmps71
    go_wp2
    go_ret
    exact ⟨by rw [addrPage, if_pos h]; rfl, rfl⟩
  · go_enter Try.func71, Try.ntmps71
    go_wp2
    go_ret
    exact ⟨by rw [addrPage, if_neg (by omega)]; rfl, rfl⟩
theorem sAddrPage_v {x y : Int} (h : addrPage x = y) (hx : x ≤ 9223372036854775807) (w : World) : Calls Try.prog 71 #[.int .i64 x] w fun e w' => e = .returned (.int .i64 y) ∧ w = w' := h ▸ sAddrPage_c x hx w
theorem iAddrPage_c (x : Int) (hx : x ≤ 9223372036854775807) (w : World) : Calls Try.prog 70 #[.int .i64 x] w fun e w' => e = .returned (.int .i64 (addrPage x)) ∧ w = w' := by
  by_cases h : x < 0
  · go_enter Try.func70, Try.ntmps70
    go_wp2
    go_ret
    exact ⟨by rw [addrPage, if_pos h]; rfl, rfl⟩
  · go_enter Try.func70, Try.ntmps70
    go_wp2
    go_ret
    exact ⟨by rw [addrPage, if_neg (by omega)]; rfl, rfl⟩
theorem iAddrPage_v {x y : Int} (h : addrPage x = y) (hx : x ≤ 9223372036854775807) (w : World) : Calls Try.prog 70 #[.int .i64 x] w fun e w' => e = .returned (.int .i64 y) ∧ w = w' := h ▸ iAddrPage_c x hx w
theorem sAddrCell_c (x : Int) (hx : x ≤ 9223372036854775807) (w : World) : Calls Try.prog 73 #[.int .i64 x] w fun e w' => e = .returned (.int .i64 (addrCell x)) ∧ w = w' := by
  by_cases h : x < 0
  · go_enter Try.func73, Try.ntmps73
    go_wp2
    go_ret
    exact ⟨by rw [addrCell, if_pos h]; rfl, rfl⟩
  · go_enter Try.func73, Try.ntmps73
    go_wp2
    go_ret
    exact ⟨by rw [addrCell, if_neg (by omega)]; rfl, rfl⟩
theorem sAddrCell_v {x y : Int} (h : addrCell x = y) (hx : x ≤ 9223372036854775807) (w : World) : Calls Try.prog 73 #[.int .i64 x] w fun e w' => e = .returned (.int .i64 y) ∧ w = w' := h ▸ sAddrCell_c x hx w
theorem iAddrCell_c (x : Int) (hx : x ≤ 9223372036854775807) (w : World) : Calls Try.prog 72 #[.int .i64 x] w fun e w' => e = .returned (.int .i64 (addrCell x)) ∧ w = w' := by
  by_cases h : x < 0
  · go_enter Try.func72, Try.ntmps72
    go_wp2
    go_ret
    exact ⟨by rw [addrCell, if_pos h]; rfl, rfl⟩
  · go_enter Try.func72, Try.ntmps72
    go_wp2
    go_ret
    exact ⟨by rw [addrCell, if_neg (by omega)]; rfl, rfl⟩
theorem iAddrCell_v {x y : Int} (h : addrCell x = y) (hx : x ≤ 9223372036854775807) (w : World) : Calls Try.prog 72 #[.int .i64 x] w fun e w' => e = .returned (.int .i64 y) ∧ w = w' := h ▸ iAddrCell_c x hx w
end Go.Proofs.Ytlfnhfipnjgifaa
